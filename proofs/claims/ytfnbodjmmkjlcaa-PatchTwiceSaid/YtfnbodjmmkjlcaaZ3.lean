/-
  What the claim needs of the words, of the walks and of the plain proofs, in one row (3).
-/
import Derived.Deep.RegionHeld3
import Derived.WalkLawsBesides
import Derived.WalkSpells
import Derived.RangeFuncNested
import Derived.RangeFuncBound
import Derived.RangeFuncCalls
import Derived.RangeFuncLeaves
import Derived.RangeFuncBox
import Derived.RangeFuncMany
import Derived.Shelf.Abstract
import Derived.OwnWalkIn
import Derived.TacticsInMore
import Derived.LoopNIn
import Derived.LoopIn
import Derived.Test.YtfnbodjmmkjlcaaZ0
import Derived.Test.YtfnbodjmmkjlcaaZ1
import Derived.Test.YtfnbodjmmkjlcaaZ2
section
namespace Go.Proofs.Ytfnbodjmmkjlcaa.H
open Go.RowKit Go.Proofs.YtfnbodjmmkjlcaaW.PrintWords Go.Proofs.YtfnbodjmmkjlcaaW.PrintLast Go.Proofs.YtfnbodjmmkjlcaaW.PrintMore
attribute [local go_sem] max2_int min2_int max_two min_two max_three min_three max_four min_four
set_option linter.unusedVariables false
set_option linter.unusedSimpArgs false
structure jalousieref09_Build.Q where
 out:List S44
 a:Nat
 b:Nat
 on:Bool
def jalousieref09_Build.isin (k c:Nat) (l:List S47) (i:Nat):Option Bool:=if (l.getD i z47).f0=1 then jalousieref09_near.f k l (i:Int) (c:Int) else if (l.getD i z47).f0=2∨(l.getD i z47).f0=3 then some true else none
def jalousieref09_Build.step (x:S47) (is:Bool) (q:jalousieref09_Build.Q):Option jalousieref09_Build.Q:=
 let a':=if x.f0=3 then q.a else q.a+1
 let b':=if x.f0=2 then q.b else q.b+1
 if is=true then
  (match (if q.on=true then q.out else q.out++ [⟨(q.a:Int),0,(q.b:Int),0,[]⟩]).reverse with
  | []=>none
  | h::t=>some ⟨t.reverse++ [⟨h.f0,(a':Int)-h.f0,h.f2,(b':Int)-h.f2,h.f4++ [x]⟩],a',b',true⟩)
 else some ⟨q.out,a',b',false⟩
def jalousieref09_Build.loop (k c:Nat) (l:List S47):Nat→jalousieref09_Build.Q→Option jalousieref09_Build.Q
 | 0,q=>some q
 | d+1,q=>(jalousieref09_Build.isin k c l (l.length-(d+1))).bind fun is=>(jalousieref09_Build.step (l.getD (l.length-(d+1)) z47) is q).bind (jalousieref09_Build.loop k c l d)
def jalousieref09_Build.norm (k:Nat):List S44→Option (List S44)
 | []=>some []
 | h::t=>(jalousieref08_Normal.f k h.f4).bind fun n=>(jalousieref09_Build.norm k t).bind fun r=>some (⟨h.f0,h.f1,h.f2,h.f3,n.1⟩::r)
def jalousieref09_Build.run (k c:Nat) (n:List S47):Option (List S44):=
 (jalousieref09_Single.f k n).bind fun l=>if l.length≤1000000 then (jalousieref09_Build.loop k c l l.length ⟨[],0,0,false⟩).bind fun q=>jalousieref09_Build.norm k q.out else none
def jalousieref09_Build.f (k:Nat) (l0:List S47) (a1:Int):Option (List S44×Int):=
 (jalousieref08_Normal.f k l0).bind fun t=>if t.2=0 then (if a1<0∨20<a1 then some ([],2) else (jalousieref09_Build.run k a1.toNat t.1).bind fun h=>some (h,0)) else some ([],t.2)
theorem jalousieref09_Build.last {W:World} {B g m cap:Nat} {out t:List S44} {h:S44} (hR:Kd.R k44 44 W B (fun _=>True) (.slice (some ⟨g,0,none⟩) (m+1) cap) out) (ho:out=t++ [h]):
  t.length=m∧ ∃(A4:Option Addr) (c4:Nat),W.cell? ⟨g,m*5,none⟩=some (.int .i64 h.f0)∧W.cell? ⟨g,m*5+1,none⟩=some (.int .i64 h.f1)∧W.cell? ⟨g,m*5+2,none⟩=some (.int .i64 h.f2)∧W.cell? ⟨g,m*5+3,none⟩=some (.int .i64 h.f3)∧W.cell? ⟨g,m*5+4,none⟩=some (.slice A4 h.f4.length c4)∧h.f4.length≤c4∧
   Kd.R k47 47 W B (fun k=>k≠g) (.slice A4 h.f4.length c4) h.f4∧(∀j,W.frozen? ⟨g,m*5+j,none⟩=false)∧ ∃cg,W.heap[g]? =some (.cells cg 44 (0,0)):=by
 have hn:=(Kd.R_reads' hR).1
 have ht:t.length=m:=by
  rw [ho] at hn
  simp at hn
  omega
 obtain⟨c,hcl,hM,hcc,hfr⟩:=Kd.R_elem hR z44 (m:Int) (by omega) (by omega)
 have hx:out.getD (m:Int).toNat z44=h:=by
  rw [Int.toNat_natCast,ho,List.getD_eq_getElem?_getD,List.getElem?_append_right (by omega),ht,Nat.sub_self]
  rfl
 rw [hx] at hM
 simp only [Int.toNat_natCast] at hcc hfr
 obtain⟨v4,rfl,hv4⟩:=k44_openM hM
 obtain⟨A4,c4,rfl,hl4,_⟩:=Kd.R_reads hv4
 exact⟨ht,A4,c4,hcc 0 _ rfl,hcc 1 _ rfl,hcc 2 _ rfl,hcc 3 _ rfl,hcc 4 _ rfl,hl4,Kd.R_mono hv4 (fun _ hk=>hk.2),hfr,Kd.R_typed hR g (by simp [Value.ownBlock])⟩
theorem jalousieref09_Build.set5 {W:World} {B g m cap:Nat} {out t:List S44} {h h':S44} {v4:Value} (hR:Kd.R k44 44 W B (fun _=>True) (.slice (some ⟨g,0,none⟩) (m+1) cap) out) (ho:out=t++ [h]) (hv:Kd.R k47 47 W B (fun k=>k≠g) v4 h'.f4):
  Kd.R k44 44 (W.setCells g (m*5) [.int .i64 h'.f0, .int .i64 h'.f1, .int .i64 h'.f2, .int .i64 h'.f3,v4]) B (fun _=>True) (.slice (some ⟨g,0,none⟩) (m+1) cap) (t++ [h']):=by
 have hn:=(Kd.R_reads' hR).1
 have ht:t.length=m:=by
  rw [ho] at hn
  simp at hn
  omega
 obtain⟨c,hcl,hM,hcc,hfr⟩:=Kd.R_elem hR z44 (m:Int) (by omega) (by omega)
 have h1:=Kd.R_seg hR (m:Int) (by omega) (by omega) (seg:= [.int .i64 h'.f0, .int .i64 h'.f1, .int .i64 h'.f2, .int .i64 h'.f3,v4]) (j:=0) hcl hcc (show 0+5≤5 by decide) (x':=h') (okp:=fun k=>k≠g) (by
  have hc5:c.length=5:=hcl
  rw [List.take_zero,List.nil_append,List.drop_of_length_le (by rw [hc5];exact(show 5≤0+5 by decide)),List.append_nil]
  exact k44_mkM _ _ _ h' hv) (fun _ hk=>⟨trivial,hk⟩)
 simp only [Int.toNat_natCast] at h1
 have e:out.set m h'=t++ [h']:=by
  rw [ho,List.set_append_right _ _ (by omega),ht,Nat.sub_self]
  rfl
 rw [e] at h1
 exact h1.1
theorem jalousieref09_Build.store5 {ops:Array Oper} {rest:List Oper} {o:Oper} {a:Act} {Q:Exit→Act→World→Prop} {w0 W:World} (base:Nat) {g m cap:Nat} {out t:List S44} {h:S44} (h':S44) {v4:Value} (hN:o.dst=none) (hgd:o.guard=none) (ho:o.op= .store 44 (.tmp 114) (.tmp 113))
  (haddr:a.eval (.tmp 114)= .pointer (some ⟨g,m*5,none⟩)) (hx:a.eval (.tmp 113)= .agg #[.int .i64 h'.f0, .int .i64 h'.f1, .int .i64 h'.f2, .int .i64 h'.f3,v4])
  (hR:Kd.R k44 44 W base (fun _=>True) (.slice (some ⟨g,0,none⟩) (m+1) cap) out) (he:out=t++ [h]) (hv:Kd.R k47 47 W base (fun k=>k≠g) v4 h'.f4) (HB:Below base w0 W)
  (hk: ∀w1,Kd.R k44 44 w1 base (fun _=>True) (.slice (some ⟨g,0,none⟩) (m+1) cap) (t++ [h'])→Below base w0 w1→W.grownBy w1 (some g)→wpList Try.prog ops Q rest a w1):wpList Try.prog ops Q (o::rest) a W:=by
 have hn:=(Kd.R_reads' hR).1
 have ht:t.length=m:=by
  rw [he] at hn
  simp at hn
  omega
 obtain⟨c,hcl,hM,hcc,hfr⟩:=Kd.R_elem hR z44 (m:Int) (by omega) (by omega)
 obtain⟨A4,c4,rfl⟩:=Kd.R_slice hv
 refine Kd.R_store k44 (w0:=w0) base hN hgd 44 (.tmp 114) (.tmp 113) ho 44 (m:Int) 0 out h' _ [.int .i64 h'.f0, .int .i64 h'.f1, .int .i64 h'.f2, .int .i64 h'.f3, .slice A4 h'.f4.length c4] c (fun _=>True) (fun k=>k≠g) haddr (by rw [Int.toNat_natCast];rfl) hx rfl (by kernel_rfl) (by intro q hq;simp at hq;rcases hq with rfl|rfl|rfl|rfl|rfl<;>rfl) hR (by omega) (by omega) hcl hcc (show 0+5≤5 by decide) (by
  have hc5:c.length=5:=hcl
  rw [List.take_zero,List.nil_append,List.drop_of_length_le (by rw [hc5];exact(show 5≤0+5 by decide)),List.append_nil]
  exact k44_mkM _ _ _ h' hv) (fun _ hk=>⟨trivial,hk⟩) HB ?_
 intro w1 hr1 hb1 hg1
 rw [Int.toNat_natCast] at hr1
 have e:out.set m h'=t++ [h']:=by
  rw [he,List.set_append_right _ _ (by omega),ht,Nat.sub_self]
  rfl
 rw [e] at hr1
 exact hk w1 hr1 hb1 hg1
theorem jalousieref09_Build.addr {W:World} {B m cap:Nat} {A:Option Addr} {ok:Nat→Prop} {out:List S44} (hR:Kd.R k44 44 W B ok (.slice A (m+1) cap) out): ∃g,A=some ⟨g,0,none⟩:=by
 obtain⟨inner,hown⟩:=Kd.R_own hR
 rcases hown.2 with ⟨hv,_⟩|⟨g,cap',cur,hv,_⟩
 ·injection hv with _ h2 _
  omega
 ·injection hv with h1 _ _
  exact⟨g,h1⟩
theorem jalousieref09_Build.elem {W:World} {B g n m cap:Nat} {out:List S44} {ok:Nat→Prop} (hR:Kd.R k44 44 W B ok (.slice (some ⟨g,0,none⟩) n cap) out) (hm:m<n):
  ∃(A4:Option Addr) (c4:Nat),W.cell? ⟨g,m*5,none⟩=some (.int .i64 (out.getD m z44).f0)∧W.cell? ⟨g,m*5+1,none⟩=some (.int .i64 (out.getD m z44).f1)∧W.cell? ⟨g,m*5+2,none⟩=some (.int .i64 (out.getD m z44).f2)∧W.cell? ⟨g,m*5+3,none⟩=some (.int .i64 (out.getD m z44).f3)∧W.cell? ⟨g,m*5+4,none⟩=some (.slice A4 (out.getD m z44).f4.length c4)∧(out.getD m z44).f4.length≤c4∧
   Kd.R k47 47 W B (fun k=>ok k∧k≠g) (.slice A4 (out.getD m z44).f4.length c4) (out.getD m z44).f4:=by
 obtain⟨c,hcl,hM,hcc,hfr⟩:=Kd.R_elem hR z44 (m:Int) (by omega) (by omega)
 simp only [Int.toNat_natCast] at hcc hfr hM
 generalize out.getD m z44=h at hM ⊢
 obtain⟨v4,rfl,hv4⟩:=k44_openM hM
 obtain⟨A4,c4,rfl,hl4,_⟩:=Kd.R_reads hv4
 exact⟨A4,c4,hcc 0 _ rfl,hcc 1 _ rfl,hcc 2 _ rfl,hcc 3 _ rfl,hcc 4 _ rfl,hl4,hv4⟩
theorem jalousieref09_Build.storeAt {ops:Array Oper} {rest:List Oper} {o:Oper} {a:Act} {Q:Exit→Act→World→Prop} {w0 W:World} (base:Nat) {p x:Operand} {g n m cap:Nat} {out:List S44} (h':S44) {v4:Value} (hN:o.dst=none) (hgd:o.guard=none) (ho:o.op= .store 44 p x)
  (haddr:a.eval p= .pointer (some ⟨g,m*5,none⟩)) (hx:a.eval x= .agg #[.int .i64 h'.f0, .int .i64 h'.f1, .int .i64 h'.f2, .int .i64 h'.f3,v4])
  (hR:Kd.R k44 44 W base (fun _=>True) (.slice (some ⟨g,0,none⟩) n cap) out) (hm:m<n) (hv:Kd.R k47 47 W base (fun k=>k≠g) v4 h'.f4) (HB:Below base w0 W)
  (hk: ∀w1,Kd.R k44 44 w1 base (fun _=>True) (.slice (some ⟨g,0,none⟩) n cap) (out.set m h')→Below base w0 w1→W.grownBy w1 (some g)→wpList Try.prog ops Q rest a w1):wpList Try.prog ops Q (o::rest) a W:=by
 obtain⟨c,hcl,hM,hcc,hfr⟩:=Kd.R_elem hR z44 (m:Int) (by omega) (by omega)
 obtain⟨A4,c4,rfl⟩:=Kd.R_slice hv
 refine Kd.R_store k44 (w0:=w0) base hN hgd 44 p x ho 44 (m:Int) 0 out h' _ [.int .i64 h'.f0, .int .i64 h'.f1, .int .i64 h'.f2, .int .i64 h'.f3, .slice A4 h'.f4.length c4] c (fun _=>True) (fun k=>k≠g) haddr (by rw [Int.toNat_natCast];rfl) hx rfl (by kernel_rfl) (by intro q hq;simp at hq;rcases hq with rfl|rfl|rfl|rfl|rfl<;>rfl) hR (by omega) (by omega) hcl hcc (show 0+5≤5 by decide) (by
  have hc5:c.length=5:=hcl
  rw [List.take_zero,List.nil_append,List.drop_of_length_le (by rw [hc5];exact(show 5≤0+5 by decide)),List.append_nil]
  exact k44_mkM _ _ _ h' hv) (fun _ hk=>⟨trivial,hk⟩) HB ?_
 intro w1 hr1 hb1 hg1
 rw [Int.toNat_natCast] at hr1
 exact hk w1 hr1 hb1 hg1
theorem jalousieref09_Build.norm_at (k:Nat): ∀(l o:List S44),jalousieref09_Build.norm k l=some o→o.length=l.length∧ ∀j,j<l.length→ ∃n,jalousieref08_Normal.f k (l.getD j z44).f4=some n∧o.getD j z44=⟨(l.getD j z44).f0,(l.getD j z44).f1,(l.getD j z44).f2,(l.getD j z44).f3,n.1⟩
 | [],o,h=>by
  obtain rfl:=Option.some.inj h
  exact⟨rfl,fun j hj=>absurd hj (by simp)⟩
 | x::t,o,h=>by
  unfold jalousieref09_Build.norm at h
  obtain⟨n,hn,h⟩:=Option.bind_eq_some_iff.1 h
  obtain⟨r,hr,h⟩:=Option.bind_eq_some_iff.1 h
  obtain rfl:=Option.some.inj h
  obtain⟨hl,hj⟩:=jalousieref09_Build.norm_at k t r hr
  refine⟨by simp [hl],fun j hlt=>?_⟩
  cases j with
  | zero=>exact⟨n,hn,rfl⟩
  | succ j=>exact hj j (by simpa using hlt)
theorem jalousieref09_Build.set_at {l o:List S44} (hl:o.length=l.length) {j:Nat} (hj:j<l.length):(o.take j++l.drop j).set j (o.getD j z44)=o.take (j+1)++l.drop (j+1):=by
 apply List.ext_getElem?
 intro i
 rw [List.getElem?_set,List.getD_eq_getElem?_getD]
 have ho:j<o.length:=by omega
 rw [List.getElem?_eq_getElem ho]
 by_cases hi:j=i
 ·subst hi
  rw [if_pos rfl,if_pos (by simp;omega),List.getElem?_append_left (by simp;omega),List.getElem?_take_of_lt (by omega),List.getElem?_eq_getElem ho]
  rfl
 ·rw [if_neg hi]
  by_cases hlt:i<j
  ·rw [List.getElem?_append_left (by simp;omega),List.getElem?_append_left (by simp;omega),List.getElem?_take_of_lt hlt,List.getElem?_take_of_lt (by omega)]
  ·rw [List.getElem?_append_right (by simp;omega),List.getElem?_append_right (by simp;omega),List.getElem?_drop,List.getElem?_drop]
   congr 1
   simp
   omega
theorem jalousieref09_Build.get_at {l o:List S44} (hl:o.length=l.length) {j:Nat} (hj:j<l.length):(o.take j++l.drop j).getD j z44=l.getD j z44:=by
 rw [List.getD_eq_getElem?_getD,List.getD_eq_getElem?_getD,List.getElem?_append_right (by simp;omega),List.getElem?_drop]
 congr 2
 simp
 omega
def jalousieref09_Build.Ok (i:Nat) (q:jalousieref09_Build.Q):Prop:=q.out.length≤i∧q.a≤i∧q.b≤i∧ ∀h∈q.out,(0≤h.f0∧h.f0≤1000000)∧(0≤h.f2∧h.f2≤1000000)∧h.f4.length≤i
set_option maxHeartbeats 4000000 in
set_option maxRecDepth 100000 in
theorem jalousieref09_Build.calls (k:Nat) (A0:Option Addr) (c0:Nat) (l0:List S47) (a1:Int) (r1:List S44) (r2:Int) (w:World) (hr0:Kd.C k47 w A0 l0.length l0) (hc0:l0.length≤c0) (h:jalousieref09_Build.f k l0 a1=some (r1,r2)):
  Calls Try.prog 16 #[.slice A0 l0.length c0, .int .i64 a1] w fun e w'=> ∃v0_:Value,e= .returned (.tuple #[v0_, .int .i64 r2])∧Kd.R k44 44 w' w.heap.size (fun _=>True) v0_ r1∧Below w.heap.size w w':=by
 unfold jalousieref09_Build.f at h
 obtain⟨⟨n,e0⟩,hN,h⟩:=Option.bind_eq_some_iff.1 h
 simp only at h
 have HN:=Aside0.mk (jalousieref08_Normal.calls k A0 c0 l0 n e0 w hr0 hc0 hN)
 clear hN hr0 hc0
 by_cases he0:e0=0
 ·subst he0
  rw [if_pos rfl] at h
  by_cases ha:a1<0∨20<a1
  ·rw [if_pos ha] at h
   have hr:=Option.some.inj h
   simp only [Prod.mk.injEq] at hr
   obtain⟨rfl,rfl⟩:=hr
   clear h
   by_cases ha0:a1<0
   ·have hd:decide (a1<0)=true:=decide_eq_true ha0
    clear ha ha0
    go_enter Try.func16,Try.ntmps16
    go_wp2_with(go_at_call 23;refine HN.out.mono ?_;rintro e w1 ⟨v0,rfl,ho,hb⟩)
    go_ret2
    exact⟨_,rfl,Kd.R_nil _ _ _ _ _,hb⟩
   ·have hd:decide (a1<0)=false:=decide_eq_false ha0
    have hd2:decide (a1>20)=true:=decide_eq_true (ha.resolve_left ha0)
    clear ha ha0
    go_enter Try.func16,Try.ntmps16
    go_wp2_with(go_at_call 23;refine HN.out.mono ?_;rintro e w1 ⟨v0,rfl,ho,hb⟩)
    go_ret2
    exact⟨_,rfl,Kd.R_nil _ _ _ _ _,hb⟩
  ·rw [if_neg ha] at h
   have hd:decide (a1<0)=false:=decide_eq_false (fun h=>ha (.inl h))
   have hd2:decide (a1>20)=false:=decide_eq_false (fun h=>ha (.inr h))
   obtain⟨c,rfl⟩: ∃c:Nat,a1=c:=⟨a1.toNat,by omega⟩
   rw [Int.toNat_natCast] at h
   have hc20:c≤20:=by omega
   obtain⟨o,hrun,h⟩:=Option.bind_eq_some_iff.1 h
   have hr:=Option.some.inj h
   simp only [Prod.mk.injEq] at hr
   obtain⟨rfl,rfl⟩:=hr
   unfold jalousieref09_Build.run at hrun
   obtain⟨l,hl,hrun⟩:=Option.bind_eq_some_iff.1 hrun
   split at hrun
   case isFalse=>cases hrun
   rename_i hsz
   obtain⟨qF,hloop,hnorm⟩:=Option.bind_eq_some_iff.1 hrun
   have Hl:=Aside0.mk hl
   have Hloop:=Aside0.mk hloop
   have Hnorm:=Aside0.mk hnorm
   clear h hrun hl hloop hnorm ha
   go_enter Try.func16,Try.ntmps16
   go_wp2_with(first|(go_at_call 23;refine HN.out.mono ?_;rintro e w1 ⟨v0,rfl,ho,hb⟩;obtain⟨An,cn,rfl,hcn,hCn⟩:=Kd.R_reads (Kd.S_R ho);have HS:=Aside0.mk (jalousieref09_Single.calls k An cn n l w1 hCn hcn Hl.out);have HB1:=Aside0.mk hb;clear ho hb hCn hcn)|(go_at_call 41;refine HS.out.mono ?_;rintro e w2 ⟨v2,rfl,ho2,hb2⟩;have HR2:=Aside0.mk (Kd.S_R ho2);have HB2:=Aside0.mk (below_step HB1.out hb2);have HB12:=Aside0.mk HB1.out.size;obtain⟨Al,cl,rfl⟩:=Kd.R_slice HR2.out;clear ho2 hb2))
   have HR2C:=Aside0.mk (Kd.R_reads' HR2.out)
   go_loopw [9,10,11,12,13] (fun vo va vb vn vi wr=> ∃(i:Nat) (q:jalousieref09_Build.Q),i≤l.length∧va= .int .i64 (q.a:Int)∧vb= .int .i64 (q.b:Int)∧vn= .bool q.on∧vi= .int .i64 (i:Int)∧jalousieref09_Build.loop k c l (l.length-i) q=some qF∧Kd.R k44 44 wr w.heap.size (fun _=>True) vo q.out∧(∀k_,vo.ownBlock=some k_→w2.heap.size≤k_)∧jalousieref09_Build.Ok i q∧Below w2.heap.size w2 wr)
    (fun _ _ _ _ vi _=>l.length-(intOf vi).toNat)
   case atStart=>
    refine⟨0,⟨[],0,0,false⟩,Nat.zero_le _,rfl,rfl,rfl,rfl,Hloop.out,Rd.empty _ _ _ _ _ _ (World.alloc_heap_new w2 _) HB2.out.size trivial (by decide),?_,⟨Nat.le_refl _,Nat.le_refl _,Nat.le_refl _,fun _ h=>absurd h (by simp)⟩,below_alloc (Below.refl _ _) _⟩
    intro k_ hk_
    simp only [Value.ownBlock,Option.some.injEq] at hk_
    omega
   case round=>
    obtain⟨i,⟨out,a,b,on⟩,hi,rfl,rfl,rfl,rfl,hlp,hR,hown,hok,hB⟩:=hrel
    simp only at hR hok
    by_cases hlt:i<l.length
    ·obtain⟨gl,rfl⟩: ∃gl,Al=some ⟨gl,0,none⟩:=by
      obtain⟨ad,_,_,e,_⟩:=at_T47 HR2C.out.2.2 0 (by omega) (by omega)
      subst e
      obtain⟨g,rfl⟩:=Kd.R_head HR2.out
      exact⟨g,rfl⟩
     have hd1:l.length-i=l.length-(i+1)+1:=by omega
     rw [hd1] at hlp
     unfold jalousieref09_Build.loop at hlp
     obtain⟨is,his,hlp⟩:=Option.bind_eq_some_iff.1 hlp
     obtain⟨q1,hq1,hlp⟩:=Option.bind_eq_some_iff.1 hlp
     have hi2:l.length-(l.length-(i+1)+1)=i:=by omega
     rw [hi2] at his hq1
     obtain⟨cx,hcl,hM,hcc,_⟩:=Kd.R_elem HR2.out z47 (i:Int) (by omega) (by omega)
     rw [Int.toNat_natCast] at hM
     unfold jalousieref09_Build.isin at his
     generalize l.getD i z47=x at his hq1 hM
     obtain⟨v1,rfl,hv1⟩:=k47_openM hM
     obtain⟨A1,c1,rfl,hc1,hC1⟩:=Kd.R_reads hv1
     simp only [Int.toNat_natCast] at hcc
     have hxw0:w2.cell? ⟨gl,i*2,none⟩=some (.int .i64 x.f0):=hcc 0 _ rfl
     have hxw1:w2.cell? ⟨gl,i*2+1,none⟩=some (.slice A1 x.f1.length c1):=hcc 1 _ rfl
     have hgl:gl<w2.heap.size:=World.block_lt_of_cell? w2 _ hxw0
     have HXY:Aside0 (∀Y:World,Below w2.heap.size w2 Y→Y.cell? ⟨gl,i*2,none⟩=some (.int .i64 x.f0)∧Y.cell? ⟨gl,i*2+1,none⟩=some (.slice A1 x.f1.length c1)):=⟨fun Y h=>⟨(h.cell hgl).trans hxw0,(h.cell hgl).trans hxw1⟩⟩
     have HV1:=Aside0.mk hv1
     have HB:=Aside0.mk hB
     have HR:=Aside0.mk hR
     have Hown:=Aside0.mk hown
     have Hok:=Aside0.mk hok
     have Hlp:=Aside0.mk hlp
     have HWi:Aside0 (wrap64 ((i:Int)+1)=((i+1:Nat):Int)):=⟨by unfold wrap64;omega⟩
     have hlt2:((i:Int)<(l.length:Int))=True:=eq_true (by omega)
     have hlt3:decide ((i:Int)<(l.length:Int))=true:=decide_eq_true (by omega)
     obtain⟨hx0,hx1⟩:=HXY.out wr hB
     have hob:out.length≤i∧a≤i∧b≤i:=⟨hok.1,hok.2.1,hok.2.2.1⟩
     obtain⟨hob1,hob2,hob3⟩:=hob
     have hi9:i≤1000000:=by omega
     clear hd1 hlp hi2 hcl hM hcc hv1 hC1 hxw0 hxw1 hB hR hown hok
     cases is with
     | false=>
      have h1:x.f0=1:=by
       by_cases h1:x.f0=1
       ·exact h1
       ·rw [if_neg h1] at his
        split at his
        ·cases his
        ·cases his
      rw [if_pos h1] at his
      have HNe:=Aside0.mk his
      unfold jalousieref09_Build.step at hq1
      rw [if_neg (by decide),if_neg (by omega),if_neg (by omega)] at hq1
      have HQ1:=Aside0.mk (Option.some.inj hq1)
      have hf1:(x.f0 != 1)=false:=by simp [h1]
      have hf2:(x.f0 != 2)=true:=by simp [h1]
      have hf3:(x.f0 != 3)=true:=by simp [h1]
      clear his hq1 h1
      go_wp2_with(go_at_call 46;refine(jalousieref09_near.calls k (some ⟨gl,0,none⟩) cl l (i:Int) (c:Int) false wr (Kd.C_below HR2C.out.2.2 HB.out) HR2C.out.2.1 HNe.out).mono ?_;rintro e wn ⟨rfl,hD⟩;have HBn:=Aside0.mk (HB.out.trans (hD.below.mono HB.out.size));have HRn:=Aside0.mk (Kd.R_below HR.out hD.below);obtain⟨hxa,hxb⟩:=HXY.out wn HBn.out;clear hD)
      go_roundw
      case rel=>
       obtain rfl:=HQ1.out
       exact⟨i+1,_,by omega,by rfl,by rfl,rfl,by rfl,Hlp.out,HRn.out,Hown.out,⟨by have:=Hok.out.1;simp only at this ⊢;omega,by simp only;omega,by simp only;omega,fun h hh=>⟨(Hok.out.2.2.2 h hh).1,(Hok.out.2.2.2 h hh).2.1,Nat.le_succ_of_le (Hok.out.2.2.2 h hh).2.2⟩⟩,HBn.out⟩
      case measure=>
       simp only [intOf,Int.toNat_natCast]
       omega
     | true=>
      unfold jalousieref09_Build.step at hq1
      rw [if_pos rfl] at hq1
      by_cases h1:x.f0=1
      ·rw [if_pos h1] at his
       have HNe:=Aside0.mk his
       have hf1:(x.f0 != 1)=false:=by simp [h1]
       have hf2:(x.f0 != 2)=true:=by simp [h1]
       have hf3:(x.f0 != 3)=true:=by simp [h1]
       rw [if_neg (show ¬x.f0=3 by omega),if_neg (show ¬x.f0=2 by omega)] at hq1
       cases on with
       | true=>
        rw [if_pos rfl] at hq1
        split at hq1
        ·cases hq1
        rename_i h tr hrev
        have HQ1:=Aside0.mk (Option.some.inj hq1)
        have ho:out=tr.reverse++ [h]:=by
         have:=congrArg List.reverse hrev
         simpa using this
        generalize tr.reverse=tt at ho HQ1
        obtain⟨m,hm⟩: ∃m,m=tt.length:=⟨_,rfl⟩;have hol:out.length=m+1:=(by rw [ho,hm];simp);obtain⟨Ao,co,ev⟩:=Kd.R_slice HR.out;rw [hol] at ev;subst ev;obtain⟨go,rfl⟩:=jalousieref09_Build.addr HR.out;have HO:=Aside0.mk ho;have HM:=Aside0.mk hm;have HOL:=Aside0.mk hol;have hm9:m≤1000000:=(by omega);have HK:Aside0 (tt.length≤i∧a≤i∧b≤i∧ ∀y∈tt++ [h],(0≤y.f0∧y.f0≤1000000)∧(0≤y.f2∧y.f2≤1000000)∧y.f4.length≤i):=⟨by have hk1:=Hok.out.1;have hk4:=Hok.out.2.2.2;simp only at hk1 hk4;rw [ho] at hk1 hk4;exact⟨by simp only [List.length_append,List.length_singleton] at hk1;omega,hob2,hob3,hk4⟩⟩;clear hq1 hrev h1 his ho hm hol
        go_wp2_with(go_at_call 46;refine(jalousieref09_near.calls k (some ⟨gl,0,none⟩) cl l (i:Int) (c:Int) true wr (Kd.C_below HR2C.out.2.2 HB.out) HR2C.out.2.1 HNe.out).mono ?_;rintro e wn ⟨rfl,hD⟩;have HBn:=Aside0.mk (HB.out.trans (hD.below.mono HB.out.size));have HRn:=Aside0.mk (Kd.R_below HR.out hD.below);clear hx0 hx1;obtain⟨hx0,hx1⟩:=HXY.out wn HBn.out;clear hD;have hRk:=HRn.out;obtain⟨_,A4,c4,hl0,hl1,hl2,hl3,hl4,hlc4,hR4,hfz,cg,hcg⟩:=jalousieref09_Build.last hRk HO.out)
        have hXb:=World.alloc_heap_new wn (.cells #[.int .i64 h.f0, .int .i64 h.f1, .int .i64 h.f2, .int .i64 h.f3, .slice A4 h.f4.length c4] 44 (0,0))
        have hal:Below wn.heap.size wn (wn.alloc (.cells #[.int .i64 h.f0, .int .i64 h.f1, .int .i64 h.f2, .int .i64 h.f3, .slice A4 h.f4.length c4] 44)):=below_alloc (Below.refl _ _) _
        have hBw:=HBn.out.trans (hal.mono HBn.out.size)
        have hRo:=Kd.R_below hRk hal
        have hR4w:=Kd.R_below hR4 hal
        have hcgw:=blk_alloc hcg (.cells #[.int .i64 h.f0, .int .i64 h.f1, .int .i64 h.f2, .int .i64 h.f3, .slice A4 h.f4.length c4] 44)
        have hsx:wn.heap.size<(wn.alloc (.cells #[.int .i64 h.f0, .int .i64 h.f1, .int .i64 h.f2, .int .i64 h.f3, .slice A4 h.f4.length c4] 44)).heap.size:=blk_lt hXb
        have hh4:h.f4.length≤1000000:=by
         have:=(HK.out.2.2.2 h (by simp)).2.2
         omega
        replace hXb:=blk_drew hXb
        replace hBw:=hBw.drew
        replace hRo:=Kd.R_drew hRo
        replace hR4w:=Kd.R_drew hR4w
        replace hcgw:=blk_drew hcgw
        have hRob:=Kd.R_drew (Kd.R_below (Kd.R_mono (Kd.R_bound hRk) (ok':=fun k_=>k_<wn.heap.size) (fun k_ hk_=>hk_.2.2.1)) hal)
        have hgoX:go<wn.heap.size:=Kd.R_lt hRk go (by simp [Value.ownBlock])
        clear hal hRk hR4 hl0 hl1 hl2 hl3 hl4 hx0 hx1
        obtain⟨W,hWe⟩: ∃W,W=(wn.alloc (.cells #[.int .i64 h.f0, .int .i64 h.f1, .int .i64 h.f2, .int .i64 h.f3, .slice A4 h.f4.length c4] 44)).drew:=⟨_,rfl⟩
        rw [← hWe] at hXb hBw hRo hR4w hcgw hRob
        have hsW:wn.heap.size<W.heap.size:=by rw [hWe];exact hsx
        have hWb:w.heap.size≤W.heap.size:=Nat.le_trans HB2.out.size hBw.size
        have hSk: ∀Y:World,Below W.heap.size W Y→Y.cell? ⟨wn.heap.size,4,none⟩=some (.slice A4 h.f4.length c4)∧Y.cell? ⟨gl,i*2,none⟩=some (.int .i64 x.f0)∧Y.cell? ⟨gl,i*2+1,none⟩=some (.slice A1 x.f1.length c1):=fun Y hY=>⟨(hY.cell hsW).trans ((blk_cell hXb 4).trans rfl),HXY.out Y (hBw.trans (hY.mono hBw.size))⟩
        have hCk: ∀Y:World,Below W.heap.size W Y→ReadsRow (k47.M Y w.heap.size (fun k_=>k_<W.heap.size)) 2 Y A4 h.f4.length h.f4:=fun Y hY=>by
         have h1:=Kd.R_below (Kd.R_mono (Kd.R_bound hR4w) (ok':=fun k_=>k_<W.heap.size) (fun k_ hk_=>hk_.2.2.1)) hY
         obtain⟨A_,c_,e_,_,hr_⟩:=OwnRow.reads h1.2
         injection e_ with e_ _ _
         subst e_
         exact ReadsRow.imp_ hr_ (Below.refl _ _) (fun _ _ hp=>k47.M_mono (fun _ hk=>hk.1) hp)
        have hXW:=Aside0.mk hXb
        have HV1W:=Kd.R_lower (Kd.R_below HV1.out hBw) HB12.out
        have hS0:=hSk W (Below.refl _ _)
        clear hXb
        refine start_ (n:=12) (S:=fun w'=>w'.cell? ⟨wn.heap.size,4,none⟩=some (.slice A4 h.f4.length c4)∧w'.cell? ⟨gl,i*2,none⟩=some (.int .i64 x.f0)∧w'.cell? ⟨gl,i*2+1,none⟩=some (.slice A1 x.f1.length c1)) (ds:= [11]) (Sq.bl 12 0) (by kernel_rfl) rfl (by rfl) (by rw [← hWe];exact hS0) (fun hS=>?_)
        rw [← hWe] at hS ⊢;clear hWe hS0 hsx
        refine Sq.pu (v:=?_) (a':=?_) 1 89 (Sq.bl 12 2) (by kernel_rfl) rfl rfl (fun _ _ _ h=>h) (by rfl) ?_ ?_ ?_;rotate_left;(· intro w';go_simp;with_reducible rfl);rotate_left;(· simp only [Act.put,zp1,zp2,zp3,zp4,zp5];rfl)
        refine Sq.pu (v:=?_) (a':=?_) 4 92 (Sq.bl 12 18) (by kernel_rfl) rfl rfl (fun _ _ _ h=>h) (by rfl) ?_ ?_ ?_;rotate_left;(· intro w';go_simp;with_reducible rfl);rotate_left;(· simp only [Act.put,zp1,zp2,zp3,zp4,zp5];rfl)
        refine Sq.pu (v:=?_) (a':=?_) 5 93 (Sq.bl 12 50) (by kernel_rfl) rfl rfl (fun _ _ _ h=>h) (by rfl) ?_ ?_ ?_;rotate_left;(· intro w';go_simp;with_reducible rfl);rotate_left;(· simp only [Act.put,zp1,zp2,zp3,zp4,zp5];rfl)
        refine Sq.pu (v:=?_) (a':=?_) 6 94 (Sq.bl 12 114) (by kernel_rfl) rfl rfl (fun _ _ _ h=>h) (by rfl) ?_ ?_ ?_;rotate_left;(· intro w';go_simp;with_reducible rfl);rotate_left;(· simp only [Act.put,zp1,zp2,zp3,zp4,zp5];rfl)
        refine take_ (i:=2) (N:=some 90) (v:=?_) (a':=?_) (Sq.bl 12 118) rfl rfl (by kernel_rfl) (fun _ _ _ h=>h) (Or.inl ⟨by rfl,?_⟩) hS ?_ ?_;rotate_left;(· rintro w' ⟨s0,s1,s2⟩;go_simp;with_reducible rfl);rotate_left;(· simp only [Act.put,zp1,zp2,zp3,zp4,zp5];rfl)
        refine take_ (i:=7) (N:=some 95) (v:=?_) (a':=?_) (Sq.bl 12 246) rfl rfl (by kernel_rfl) (fun _ _ _ h=>h) (Or.inl ⟨by rfl,?_⟩) hS ?_ ?_;rotate_left;(· rintro w' ⟨s0,s1,s2⟩;go_simp;with_reducible rfl);rotate_left;(· simp only [Act.put,zp1,zp2,zp3,zp4,zp5];rfl)
        refine join_ 3 (Sq.bl 12 511) (fun s:Value×Value×Value=> [(88,s.1),(91,s.2.1),(96,s.2.2)]) (fun s X=>Below W.heap.size W X∧Kd.R k47 47 X w.heap.size (fun _=>True) s.2.1 h.f4∧ ∃g,s.2.2= .slice (some ⟨g,0,none⟩) 1 1∧X.heap[g]? =some (.cells #[.int .i64 x.f0, .slice A1 x.f1.length c1] 47 (0,0))∧some g≠s.2.1.ownBlock∧W.heap.size≤g∧ ∀k_,s.2.1.ownBlock=some k_→W.heap.size≤k_) ?tail (fun hcont=> ?ord)
        case ord=>
         refine two_ (i:=0) (j:=8) (Ni:=some 88) (Nj:=some 96) (Sq.bl 12 247) (Sq.bl 12 502) rfl rfl rfl rfl (by kernel_rfl) (by decide) (by decide) (fun K hK=>?_) (fun K hK=>?_)
         ·skip
          refine value_ (w1:=?_) (v:=?_) (by rfl) rfl ?_ ?_
          rotate_left 2
          ·go_simp
           constructor
           ·rfl
           ·rfl
          have hB0:=(Below.refl W.heap.size W).alloc (Below.refl W.heap.size W).size (.cells #[] 47)
          have hq0:=World.alloc_heap_new W (.cells #[] 47)
          have hr0:Kd.R k47 47 (W.alloc (.cells #[] 47)) (w.heap.size) (fun _=>True) (.slice (some ⟨W.heap.size,0,none⟩) 0 0) []:=Rd.empty k47 _ _ _ _ _ hq0 (Nat.le_trans hWb (Below.refl W.heap.size W).size) trivial (by decide)
          refine hK.out _ _ (hSk _ hB0) (fun hS=>?_)
          refine norm_ (a':=?_) ?_ ?_
          rotate_left
          ·show Act.put _ (some 88) _=_
           simp only [Act.put,zp1,zp2,zp3,zp4,zp5]
           rfl
          refine two_ (i:=3) (j:=8) (Ni:=some 91) (Nj:=some 96) (Sq.bl 12 255) (Sq.bl 12 503) rfl rfl rfl rfl (by kernel_rfl) (by decide) (by decide) (fun K hK=>?_) (fun K hK=>?_)
          ·skip
           refine Kd.R_append_rows_step k47 (w0:=W) (w.heap.size) (by rfl) (.tmp 88) (.tmp 90) 22 47 (.agg #[(.int .i64 0),(.slice none 0 0)]) 32 rfl Try.underlying22 info47 rfl (by decide) (by omega) (.slice (some ⟨W.heap.size,0,none⟩) 0 0) [] h.f4 _ _ _ (fun _=>True) (fun k_=>k_<W.heap.size) rfl rfl hr0 (hCk _ hB0) (fun _ _ h=>h) (fun k_ hk_=>⟨trivial,fun e_=>by simp [Value.ownBlock] at e_;omega⟩) (fun _ _=>trivial) (hB0.mono hWb) (Nat.le_trans hWb hB0.size) ?aL ?_
           (case aL=>simp only [List.length_nil];omega)
           intro v1 w1 hr1 hB1_ hg1 hat1
           have hB1:=Rd.grown_new hB0 hg1 (by simp [Value.ownBlock])
           have hn1:=Rd.own_new hat1 hB0.size (by simp [Value.ownBlock])
           clear hB1_
           refine hK.out _ _ (hSk _ hB1) (fun hS=>?_)
           refine norm_ (a':=?_) ?_ ?_
           rotate_left
           ·show Act.put _ (some 91) _=_
            simp only [Act.put,zp1,zp2,zp3,zp4,zp5]
            rfl
           refine one_ (i:=8) (N:=some 96) (Sq.bl 12 511) rfl rfl (by kernel_rfl) (by decide) (fun K hK=>?_)
           refine value_ (w1:=?_) (v:=?_) (by rfl) rfl ?_ ?_
           rotate_left 2
           ·go_simp
            constructor
            ·rfl
            ·rfl
           have hB2:=hB1.alloc hB1.size (.cells #[.int .i64 x.f0, .slice A1 x.f1.length c1] 47)
           have hl2:=World.alloc_heap_new w1 (.cells #[.int .i64 x.f0, .slice A1 x.f1.length c1] 47)
           have hr2:=Kd.R_alloc hr1 (.cells #[.int .i64 x.f0, .slice A1 x.f1.length c1] 47)
           refine hK.out _ _ (hSk _ hB2) (fun hS=>?_)
           refine norm_ (a':=?_) ?_ ?_
           rotate_left
           ·show Act.put _ (some 96) _=_
            simp only [Act.put,zp1,zp2,zp3,zp4,zp5]
            rfl
           exact hcont (.slice (some ⟨W.heap.size,0,none⟩) 0 0,v1, .slice (some ⟨w1.heap.size,0,none⟩) 1 1) _ ⟨hB2,hr2,_,rfl,hl2,(fun e_=>by have h_:=Kd.R_lt hr1 _ e_.symm;omega),hB1.size,hn1⟩
          ·skip
           refine value_ (w1:=?_) (v:=?_) (by rfl) rfl ?_ ?_
           rotate_left 2
           ·go_simp
            constructor
            ·rfl
            ·rfl
           have hB2:=hB0.alloc hB0.size (.cells #[.int .i64 x.f0, .slice A1 x.f1.length c1] 47)
           have hl2:=World.alloc_heap_new (W.alloc (.cells #[] 47)) (.cells #[.int .i64 x.f0, .slice A1 x.f1.length c1] 47)
           simp only [World.size_alloc] at hl2
           have hr02:=Kd.R_alloc hr0 (.cells #[.int .i64 x.f0, .slice A1 x.f1.length c1] 47)
           refine hK.out _ _ (hSk _ hB2) (fun hS=>?_)
           refine norm_ (a':=?_) ?_ ?_
           rotate_left
           ·show Act.put _ (some 96) _=_
            simp only [Act.put,zp1,zp2,zp3,zp4,zp5]
            rfl
           refine one_ (i:=3) (N:=some 91) (Sq.bl 12 511) rfl rfl (by kernel_rfl) (by decide) (fun K hK=>?_)
           refine Kd.R_append_rows_step k47 (w0:=W) (w.heap.size) (by rfl) (.tmp 88) (.tmp 90) 22 47 (.agg #[(.int .i64 0),(.slice none 0 0)]) 32 rfl Try.underlying22 info47 rfl (by decide) (by omega) (.slice (some ⟨W.heap.size,0,none⟩) 0 0) [] h.f4 _ _ _ (fun _=>True) (fun k_=>k_<W.heap.size) rfl rfl hr02 (hCk _ hB2) (fun _ _ h=>h) (fun k_ hk_=>⟨trivial,fun e_=>by simp [Value.ownBlock] at e_;omega⟩) (fun _ _=>trivial) (hB2.mono hWb) (Nat.le_trans hWb hB2.size) ?aL ?_
           (case aL=>simp only [List.length_nil];omega)
           intro v1 w1 hr1 hB1_ hg1 hat1
           have hB1:=Rd.grown_new hB2 hg1 (by simp [Value.ownBlock])
           have hn1:=Rd.own_new hat1 hB2.size (by simp [Value.ownBlock])
           clear hB1_
           have hl1:=(hg1.block _ (blk_lt hl2) (by simp [Value.ownBlock])).trans hl2
           refine hK.out _ _ (hSk _ hB1) (fun hS=>?_)
           refine norm_ (a':=?_) ?_ ?_
           rotate_left
           ·show Act.put _ (some 91) _=_
            simp only [Act.put,zp1,zp2,zp3,zp4,zp5]
            rfl
           exact hcont (.slice (some ⟨W.heap.size,0,none⟩) 0 0,v1, .slice (some ⟨W.heap.size+1,0,none⟩) 1 1) _ ⟨hB1,hr1,_,rfl,hl1,Rd.lit_ne hr0 hr1 hat1 hl2 (by simp),by simp,hn1⟩
         ·skip
          refine value_ (w1:=?_) (v:=?_) (by rfl) rfl ?_ ?_
          rotate_left 2
          ·go_simp
           constructor
           ·rfl
           ·rfl
          have hB2:=(Below.refl W.heap.size W).alloc (Below.refl W.heap.size W).size (.cells #[.int .i64 x.f0, .slice A1 x.f1.length c1] 47)
          have hl2:=World.alloc_heap_new W (.cells #[.int .i64 x.f0, .slice A1 x.f1.length c1] 47)
          refine hK.out _ _ (hSk _ hB2) (fun hS=>?_)
          refine norm_ (a':=?_) ?_ ?_
          rotate_left
          ·show Act.put _ (some 96) _=_
           simp only [Act.put,zp1,zp2,zp3,zp4,zp5]
           rfl
          refine one_ (i:=0) (N:=some 88) (Sq.bl 12 503) rfl rfl (by kernel_rfl) (by decide) (fun K hK=>?_)
          refine value_ (w1:=?_) (v:=?_) (by rfl) rfl ?_ ?_
          rotate_left 2
          ·go_simp
           constructor
           ·rfl
           ·rfl
          have hB0:=hB2.alloc hB2.size (.cells #[] 47)
          have hq0:=World.alloc_heap_new (W.alloc (.cells #[.int .i64 x.f0, .slice A1 x.f1.length c1] 47)) (.cells #[] 47)
          have hr0:Kd.R k47 47 ((W.alloc (.cells #[.int .i64 x.f0, .slice A1 x.f1.length c1] 47)).alloc (.cells #[] 47)) (w.heap.size) (fun _=>True) (.slice (some ⟨(W.alloc (.cells #[.int .i64 x.f0, .slice A1 x.f1.length c1] 47)).heap.size,0,none⟩) 0 0) []:=Rd.empty k47 _ _ _ _ _ hq0 (Nat.le_trans hWb hB2.size) trivial (by decide)
          simp only [World.size_alloc] at hr0 hq0
          have hl0:=blk_alloc hl2 (.cells #[] 47)
          refine hK.out _ _ (hSk _ hB0) (fun hS=>?_)
          refine norm_ (a':=?_) ?_ ?_
          rotate_left
          ·show Act.put _ (some 88) _=_
           simp only [Act.put,zp1,zp2,zp3,zp4,zp5]
           rfl
          refine one_ (i:=3) (N:=some 91) (Sq.bl 12 511) rfl rfl (by kernel_rfl) (by decide) (fun K hK=>?_)
          refine Kd.R_append_rows_step k47 (w0:=W) (w.heap.size) (by rfl) (.tmp 88) (.tmp 90) 22 47 (.agg #[(.int .i64 0),(.slice none 0 0)]) 32 rfl Try.underlying22 info47 rfl (by decide) (by omega) (.slice (some ⟨W.heap.size+1,0,none⟩) 0 0) [] h.f4 _ _ _ (fun _=>True) (fun k_=>k_<W.heap.size) rfl rfl hr0 (hCk _ hB0) (fun _ _ h=>h) (fun k_ hk_=>⟨trivial,fun e_=>by simp [Value.ownBlock] at e_;omega⟩) (fun _ _=>trivial) (hB0.mono hWb) (Nat.le_trans hWb hB0.size) ?aL ?_
          (case aL=>simp only [List.length_nil];omega)
          intro v1 w1 hr1 hB1_ hg1 hat1
          have hB1:=Rd.grown_new hB0 hg1 (by simp [Value.ownBlock])
          have hn1:=Rd.own_new hat1 hB0.size (by simp [Value.ownBlock])
          clear hB1_
          have hl1:=(hg1.block _ (blk_lt hl0) (by simp [Value.ownBlock])).trans hl0
          refine hK.out _ _ (hSk _ hB1) (fun hS=>?_)
          refine norm_ (a':=?_) ?_ ?_
          rotate_left
          ·show Act.put _ (some 91) _=_
           simp only [Act.put,zp1,zp2,zp3,zp4,zp5]
           rfl
          exact hcont (.slice (some ⟨W.heap.size+1,0,none⟩) 0 0,v1, .slice (some ⟨W.heap.size,0,none⟩) 1 1) _ ⟨hB1,hr1,_,rfl,hl1,Rd.lit_ne2 hr1 hat1 (by simp [Value.ownBlock]) (by simp only [World.size_alloc];omega),Nat.le_refl _,hn1⟩
        case tail=>
         rintro ⟨s88_,s91_,s96_⟩ wt ⟨hBt,hRt,gt,he_,hlt_,hnt,hgt,hot⟩
         simp only at he_ hRt hnt hot
         subst he_
         have hS:=hSk _ hBt
         simp only [putAll,Act.put,List.setIfInBounds_toArray,List.set_cons_zero,List.set_cons_succ]
         refine one_ (i:=9) (N:=some 97) (Sq.bl 12 1023) rfl rfl (by kernel_rfl) (by decide) (fun K hK=>?_)
         refine Kd.R_append_rows_step k47 (Rr:=fun y c_=>y=x∧c_= [.int .i64 x.f0, .slice A1 x.f1.length c1]) (w0:=W) w.heap.size (by rfl) (.tmp 91) (.tmp 96) 22 47 (.agg #[(.int .i64 0),(.slice none 0 0)]) 32 rfl Try.underlying22 info47 rfl (by decide) (by omega) s91_ h.f4 [x] _ _ _ (fun _=>True) (fun k_=>k_<W.heap.size) rfl rfl hRt (Rd.lit_reads x 2 rfl hlt_ (by intro u hu;simp at hu;rcases hu with rfl|rfl<;>rfl)) (fun y c_ hy=>by rw [hy.1,hy.2];exact k47_mkM _ _ _ x (Kd.R_mono (Kd.R_bound HV1W) (fun k_ hk_=>hk_.2.2.1) |> fun h_=>Kd.R_below h_ hBt)) (fun k_ hk_=>⟨trivial,fun e_=>by have:=hot k_ e_.symm;omega⟩) (fun _ _=>trivial) (hBt.mono hWb) (Nat.le_trans hWb hBt.size) ?aL ?_
         (case aL=>omega)
         intro v97 w97 hr97 hB97_ hg97 hat97
         obtain⟨A97,c97,rfl⟩:=Kd.R_slice hr97
         have hB97:=Rd.grown_new hBt hg97 hot
         have hX97:=(hB97.block _ hsW).trans hXW.out
         have hf97:=blk_frozen hX97 4
         refine hK.out _ _ (hSk _ hB97) (fun hS=>?_)
         clear hK K
         refine norm_ (a':=?_) ?_ ?_
         rotate_left
         ·show Act.put _ (some 97) _=_
          simp only [Act.put,zp1,zp2,zp3,zp4,zp5]
          rfl
         refine Sq.pu (v:=?_) (a':=?_) 10 98 (Sq.bl 12 2047) (by kernel_rfl) rfl rfl (fun _ _ _ h=>h) (by rfl) ?_ ?_ ?_;rotate_left;(· intro w';go_simp;with_reducible rfl);rotate_left;(· simp only [Act.put,zp1,zp2,zp3,zp4,zp5];rfl)
         refine last_ (i:=11) (N:=none) (Sq.bl 12 4095) rfl rfl (by kernel_rfl) (by decide) (fun K hK=>?_)
         refine skip_ (w1:=?_) (by rfl) rfl ?_ ?_
         rotate_left
         ·go_simp
          rfl
         refine hK.out _ _ ?_
         clear hK K
         refine done_ (by kernel_rfl) ?_
         have hb5:(w97.setCell ⟨wn.heap.size,4,none⟩ (.slice A97 (h.f4++ [x]).length c97)).heap[wn.heap.size]? =some (.cells #[.int .i64 h.f0, .int .i64 h.f1, .int .i64 h.f2, .int .i64 h.f3, .slice A97 (h.f4++ [x]).length c97] 44 (0,0)):=(blk_set hX97 4 _).trans rfl
         have hcg97:=(hB97.block _ (Nat.lt_trans hgoX hsW)).trans hcgw
         have hR5:=Kd.R_far (p:=⟨wn.heap.size,4,none⟩) (Kd.R_below hRob hB97) (fun k_ hk_=>by show k_≠wn.heap.size;omega) (.slice A97 (h.f4++ [x]).length c97)
         have hv5:=Kd.R_set (Kd.R_types hr97 hcg97 (by decide)) hX97 (by decide) 4 (.slice A97 (h.f4++ [x]).length c97)
         have hBX:Below w2.heap.size w2 (w97.setCell ⟨wn.heap.size,4,none⟩ (.slice A97 (h.f4++ [x]).length c97)):=(hBw.trans (hB97.mono hBw.size)).setCell HBn.out.size _
         have e97:(h.f4++ [x]).length=h.f4.length+1:=by simp
         rw [e97] at hb5 hR5 hv5 hBX
         clear hS hf97 hX97 hr97 hB97 hB97_ hg97 hat97 hRt hBt hlt_ hnt hgt hot hSk hCk hXW HV1W hcgw hcg97 hRo hR4w hRob
         generalize w97.setCell ⟨wn.heap.size,4,none⟩ (.slice A97 (h.f4.length+1) c97)=W5 at hb5 hR5 hv5 hBX ⊢
         have hy0:=blk_cell hb5 0
         have hy1:=blk_cell hb5 1
         have hy2:=blk_cell hb5 2
         have hy3:=blk_cell hb5 3
         have hy4:=blk_cell hb5 4
         have hyf1:=blk_frozen hb5 1
         have hyf3:=blk_frozen hb5 3
         have HB5:=Aside0.mk hb5
         have HR5:=Aside0.mk hR5
         have HV5:=Aside0.mk hv5
         have HBX:=Aside0.mk hBX
         clear hb5 hR5 hv5 hBX
         obtain⟨⟨hf01,hf02⟩,⟨hf21,hf22⟩,_⟩:=HK.out.2.2.2 h (by simp)
         have HR7:=Aside0.mk (Kd.R_mono (Kd.R_far (p:=⟨wn.heap.size,3,none⟩) (Kd.R_far (p:=⟨wn.heap.size,1,none⟩) HR5.out (fun k_ hk_=>by show k_≠wn.heap.size;omega) (.int .i64 (((a:Int)+1)-h.f0))) (fun k_ hk_=>by show k_≠wn.heap.size;omega) (.int .i64 (((b:Int)+1)-h.f2))) (fun _ _=>trivial))
         have HV7:=Aside0.mk (Kd.R_mono (Kd.R_set (Kd.R_set HV5.out HB5.out (by decide) 1 (.int .i64 (((a:Int)+1)-h.f0))) (blk_set HB5.out 1 _) (by decide) 3 (.int .i64 (((b:Int)+1)-h.f2))) (fun _ hk=>hk.2))
         have HB7:=Aside0.mk ((HBX.out.setCell (p:=⟨wn.heap.size,1,none⟩) HBn.out.size (.int .i64 (((a:Int)+1)-h.f0))).setCell (p:=⟨wn.heap.size,3,none⟩) HBn.out.size (.int .i64 (((b:Int)+1)-h.f2)))
         go_wp2_with(refine jalousieref09_Build.store5 (w0:=w) w.heap.size ⟨h.f0,(((a:Int)+1)-h.f0),h.f2,(((b:Int)+1)-h.f2),h.f4++ [x]⟩ rfl rfl rfl (by rfl) (by rfl) HR7.out HO.out HV7.out (HB2.out.trans (HB7.out.mono HB2.out.size)) ?_;intro w8 hr8 hb8 hg8)
         go_roundw
         case rel=>
          obtain rfl:=HQ1.out
          refine⟨i+1,_,by omega,by rfl,by rfl,rfl,by rfl,Hlp.out,hr8,?_,?_,Rd.grown_new HB7.out hg8 (fun k_ e_=>Hown.out k_ e_)⟩
          ·exact Hown.out
          ·have hk0:=HK.out
           have hk1:=hk0.1
           have hk4:=hk0.2.2.2
           have hhl:=(hk4 h (by simp)).2.2
           refine⟨?_,?_,?_,?_⟩
           ·simp only [List.length_append,List.length_singleton] at hk1 ⊢
            omega
           ·simp only
            omega
           ·simp only
            omega
           ·intro y hy
            simp only [List.mem_append,List.mem_singleton] at hy
            rcases hy with hy|rfl
            ·exact⟨(hk4 y (by simp [hy])).1,(hk4 y (by simp [hy])).2.1,Nat.le_succ_of_le (hk4 y (by simp [hy])).2.2⟩
            ·refine⟨⟨hf01,hf02⟩,⟨hf21,hf22⟩,?_⟩
             simp only [List.length_append,List.length_singleton]
             omega
         case measure=>
          simp only [intOf,Int.toNat_natCast]
          omega
       | false=>
        rw [if_neg (by simp),List.reverse_append] at hq1
        obtain⟨h,hh⟩: ∃h:S44,h=⟨(a:Int),0,(b:Int),0,[]⟩:=⟨_,rfl⟩
        rw [← hh] at hq1
        simp only [List.reverse_singleton,List.singleton_append,List.reverse_reverse] at hq1
        have HQ1:=Aside0.mk (Option.some.inj hq1)
        have HH:=Aside0.mk hh
        obtain⟨oo,hoo⟩: ∃oo,oo=out++ [h]:=⟨_,rfl⟩
        have HO:=Aside0.mk hoo
        clear hoo
        have HK:Aside0 (out.length≤i∧a≤i∧b≤i∧ ∀y∈out++ [h],(0≤y.f0∧y.f0≤1000000)∧(0≤y.f2∧y.f2≤1000000)∧y.f4.length≤i):=⟨by
         refine⟨hob1,hob2,hob3,?_⟩
         intro y hy
         simp only [List.mem_append,List.mem_singleton] at hy
         rcases hy with hy|rfl
         ·exact Hok.out.2.2.2 y hy
         ·rw [HH.out]
          refine⟨⟨?_,?_⟩,⟨?_,?_⟩,?_⟩<;>simp only [List.length_nil]<;>omega⟩
        obtain⟨m,hm⟩: ∃m,m=out.length:=⟨_,rfl⟩
        have HM:=Aside0.mk hm
        have hm9:m≤1000000:=by omega
        obtain⟨Ao0,co0,ev⟩:=Kd.R_slice HR.out
        subst ev
        clear hq1 hh hm h1 his
        go_wp2_with(first|(go_at_call 46;refine(jalousieref09_near.calls k (some ⟨gl,0,none⟩) cl l (i:Int) (c:Int) true wr (Kd.C_below HR2C.out.2.2 HB.out) HR2C.out.2.1 HNe.out).mono ?_;rintro e wn ⟨rfl,hD⟩;have HBn:=Aside0.mk (HB.out.trans (hD.below.mono HB.out.size));have HRn:=Aside0.mk (Kd.R_below HR.out hD.below);clear hx0 hx1;obtain⟨hx0,hx1⟩:=HXY.out wn HBn.out;clear hD)|((with_reducible refine gate_builtin (b:= .append) (xs:= #[.tmp 58, .tmp 62]) rfl ?_);at_builtin;refine Kd.R_append k44 (w0:=w) w.heap.size rfl (.tmp 58) (.tmp 62) 25 44 (.agg #[(.int .i64 0),(.int .i64 0),(.int .i64 0),(.int .i64 0),(.slice none 0 0)]) 56 rfl Try.underlying25 hunk_Build.infoH rfl (by decide) (by omega) (.slice Ao0 out.length co0) out h [.int .i64 (a:Int), .int .i64 0, .int .i64 (b:Int), .int .i64 0, .slice none 0 0] (fun _=>True) (fun _=>False) rfl rfl ?aP (fun _ hk=>hk.elim) ?aF ?aO ?aB ?aS ?aL ?_;(case aP=>rw [HH.out];exact k44_mkM _ _ _ (⟨(a:Int),0,(b:Int),0,[]⟩:S44) (Kd.R_nil _ _ _ _ _));(case aF=>exact fun _ _=>trivial);(case aO=>exact HRn.out);(case aB=>exact HB2.out.trans (Below.mono (by repeat((with_reducible exact HBn.out))) HB2.out.size));(case aS=>exact Nat.le_trans HB2.out.size (Below.size (by repeat((with_reducible exact HBn.out)))));(case aL=>omega);intro v1_ wq ho_ hb_ hg_ hat_;rw [← HO.out] at ho_;have hy_:=Below.size (by repeat((with_reducible exact HBn.out)));have HBq:Aside0 (Below w2.heap.size w2 wq):=⟨pw_below_grown (by repeat((with_reducible exact HBn.out))) _ (Below.size (by repeat((with_reducible exact HBn.out)))) hg_ (fun k_ e_=>Hown.out k_ e_)⟩;have hown_: ∀k_,v1_.ownBlock=some k_→w2.heap.size≤k_:=(fun k_ e_=>hat_.elim (fun e=>Hown.out k_ (e.symm.trans e_)) (fun ⟨b_,e,hle⟩=>Nat.le_trans hy_ (by have:=e.symm.trans e_;injection this with this;rw [← this];exact hle)));have hol1:oo.length=m+1:=(by rw [HO.out,HM.out];simp);obtain⟨Ao,co,ev⟩:=Kd.R_slice ho_;rw [hol1] at ev;subst ev;obtain⟨go,rfl⟩:=jalousieref09_Build.addr ho_;have HRq:=Aside0.mk ho_;have HOWNq:=Aside0.mk hown_;have hRk:=HRq.out;obtain⟨_,A4,c4,hl0,hl1,hl2,hl3,hl4,hlc4,hR4,hfz,cg,hcg⟩:=jalousieref09_Build.last hRk HO.out;(try clear hx0 hx1);obtain⟨hx0,hx1⟩:=HXY.out wq HBq.out;clear ho_ hb_ hg_ hat_ hy_ hown_ hol1))
        have hXb:=World.alloc_heap_new wq (.cells #[.int .i64 h.f0, .int .i64 h.f1, .int .i64 h.f2, .int .i64 h.f3, .slice A4 h.f4.length c4] 44 (0,0))
        have hal:Below wq.heap.size wq (wq.alloc (.cells #[.int .i64 h.f0, .int .i64 h.f1, .int .i64 h.f2, .int .i64 h.f3, .slice A4 h.f4.length c4] 44)):=below_alloc (Below.refl _ _) _
        have hBw:=HBq.out.trans (hal.mono HBq.out.size)
        have hRo:=Kd.R_below hRk hal
        have hR4w:=Kd.R_below hR4 hal
        have hcgw:=blk_alloc hcg (.cells #[.int .i64 h.f0, .int .i64 h.f1, .int .i64 h.f2, .int .i64 h.f3, .slice A4 h.f4.length c4] 44)
        have hsx:wq.heap.size<(wq.alloc (.cells #[.int .i64 h.f0, .int .i64 h.f1, .int .i64 h.f2, .int .i64 h.f3, .slice A4 h.f4.length c4] 44)).heap.size:=blk_lt hXb
        have hh4:h.f4.length≤1000000:=by
         have:=(HK.out.2.2.2 h (by simp)).2.2
         omega
        replace hXb:=blk_drew hXb
        replace hBw:=hBw.drew
        replace hRo:=Kd.R_drew hRo
        replace hR4w:=Kd.R_drew hR4w
        replace hcgw:=blk_drew hcgw
        have hRob:=Kd.R_drew (Kd.R_below (Kd.R_mono (Kd.R_bound hRk) (ok':=fun k_=>k_<wq.heap.size) (fun k_ hk_=>hk_.2.2.1)) hal)
        have hgoX:go<wq.heap.size:=Kd.R_lt hRk go (by simp [Value.ownBlock])
        clear hal hRk hR4 hl0 hl1 hl2 hl3 hl4 hx0 hx1
        obtain⟨W,hWe⟩: ∃W,W=(wq.alloc (.cells #[.int .i64 h.f0, .int .i64 h.f1, .int .i64 h.f2, .int .i64 h.f3, .slice A4 h.f4.length c4] 44)).drew:=⟨_,rfl⟩
        rw [← hWe] at hXb hBw hRo hR4w hcgw hRob
        have hsW:wq.heap.size<W.heap.size:=by rw [hWe];exact hsx
        have hWb:w.heap.size≤W.heap.size:=Nat.le_trans HB2.out.size hBw.size
        have hSk: ∀Y:World,Below W.heap.size W Y→Y.cell? ⟨wq.heap.size,4,none⟩=some (.slice A4 h.f4.length c4)∧Y.cell? ⟨gl,i*2,none⟩=some (.int .i64 x.f0)∧Y.cell? ⟨gl,i*2+1,none⟩=some (.slice A1 x.f1.length c1):=fun Y hY=>⟨(hY.cell hsW).trans ((blk_cell hXb 4).trans rfl),HXY.out Y (hBw.trans (hY.mono hBw.size))⟩
        have hCk: ∀Y:World,Below W.heap.size W Y→ReadsRow (k47.M Y w.heap.size (fun k_=>k_<W.heap.size)) 2 Y A4 h.f4.length h.f4:=fun Y hY=>by
         have h1:=Kd.R_below (Kd.R_mono (Kd.R_bound hR4w) (ok':=fun k_=>k_<W.heap.size) (fun k_ hk_=>hk_.2.2.1)) hY
         obtain⟨A_,c_,e_,_,hr_⟩:=OwnRow.reads h1.2
         injection e_ with e_ _ _
         subst e_
         exact ReadsRow.imp_ hr_ (Below.refl _ _) (fun _ _ hp=>k47.M_mono (fun _ hk=>hk.1) hp)
        have hXW:=Aside0.mk hXb
        have HV1W:=Kd.R_lower (Kd.R_below HV1.out hBw) HB12.out
        have hS0:=hSk W (Below.refl _ _)
        clear hXb
        refine start_ (n:=12) (S:=fun w'=>w'.cell? ⟨wq.heap.size,4,none⟩=some (.slice A4 h.f4.length c4)∧w'.cell? ⟨gl,i*2,none⟩=some (.int .i64 x.f0)∧w'.cell? ⟨gl,i*2+1,none⟩=some (.slice A1 x.f1.length c1)) (ds:= [11]) (Sq.bl 12 0) (by kernel_rfl) rfl (by rfl) (by rw [← hWe];exact hS0) (fun hS=>?_)
        rw [← hWe] at hS ⊢;clear hWe hS0 hsx
        refine Sq.pu (v:=?_) (a':=?_) 1 89 (Sq.bl 12 2) (by kernel_rfl) rfl rfl (fun _ _ _ h=>h) (by rfl) ?_ ?_ ?_;rotate_left;(· intro w';go_simp;with_reducible rfl);rotate_left;(· simp only [Act.put,zp1,zp2,zp3,zp4,zp5];rfl)
        refine Sq.pu (v:=?_) (a':=?_) 4 92 (Sq.bl 12 18) (by kernel_rfl) rfl rfl (fun _ _ _ h=>h) (by rfl) ?_ ?_ ?_;rotate_left;(· intro w';go_simp;with_reducible rfl);rotate_left;(· simp only [Act.put,zp1,zp2,zp3,zp4,zp5];rfl)
        refine Sq.pu (v:=?_) (a':=?_) 5 93 (Sq.bl 12 50) (by kernel_rfl) rfl rfl (fun _ _ _ h=>h) (by rfl) ?_ ?_ ?_;rotate_left;(· intro w';go_simp;with_reducible rfl);rotate_left;(· simp only [Act.put,zp1,zp2,zp3,zp4,zp5];rfl)
        refine Sq.pu (v:=?_) (a':=?_) 6 94 (Sq.bl 12 114) (by kernel_rfl) rfl rfl (fun _ _ _ h=>h) (by rfl) ?_ ?_ ?_;rotate_left;(· intro w';go_simp;with_reducible rfl);rotate_left;(· simp only [Act.put,zp1,zp2,zp3,zp4,zp5];rfl)
        refine take_ (i:=2) (N:=some 90) (v:=?_) (a':=?_) (Sq.bl 12 118) rfl rfl (by kernel_rfl) (fun _ _ _ h=>h) (Or.inl ⟨by rfl,?_⟩) hS ?_ ?_;rotate_left;(· rintro w' ⟨s0,s1,s2⟩;go_simp;with_reducible rfl);rotate_left;(· simp only [Act.put,zp1,zp2,zp3,zp4,zp5];rfl)
        refine take_ (i:=7) (N:=some 95) (v:=?_) (a':=?_) (Sq.bl 12 246) rfl rfl (by kernel_rfl) (fun _ _ _ h=>h) (Or.inl ⟨by rfl,?_⟩) hS ?_ ?_;rotate_left;(· rintro w' ⟨s0,s1,s2⟩;go_simp;with_reducible rfl);rotate_left;(· simp only [Act.put,zp1,zp2,zp3,zp4,zp5];rfl)
        refine join_ 3 (Sq.bl 12 511) (fun s:Value×Value×Value=> [(88,s.1),(91,s.2.1),(96,s.2.2)]) (fun s X=>Below W.heap.size W X∧Kd.R k47 47 X w.heap.size (fun _=>True) s.2.1 h.f4∧ ∃g,s.2.2= .slice (some ⟨g,0,none⟩) 1 1∧X.heap[g]? =some (.cells #[.int .i64 x.f0, .slice A1 x.f1.length c1] 47 (0,0))∧some g≠s.2.1.ownBlock∧W.heap.size≤g∧ ∀k_,s.2.1.ownBlock=some k_→W.heap.size≤k_) ?tail (fun hcont=> ?ord)
        case ord=>
         refine two_ (i:=0) (j:=8) (Ni:=some 88) (Nj:=some 96) (Sq.bl 12 247) (Sq.bl 12 502) rfl rfl rfl rfl (by kernel_rfl) (by decide) (by decide) (fun K hK=>?_) (fun K hK=>?_)
         ·skip
          refine value_ (w1:=?_) (v:=?_) (by rfl) rfl ?_ ?_
          rotate_left 2
          ·go_simp
           constructor
           ·rfl
           ·rfl
          have hB0:=(Below.refl W.heap.size W).alloc (Below.refl W.heap.size W).size (.cells #[] 47)
          have hq0:=World.alloc_heap_new W (.cells #[] 47)
          have hr0:Kd.R k47 47 (W.alloc (.cells #[] 47)) (w.heap.size) (fun _=>True) (.slice (some ⟨W.heap.size,0,none⟩) 0 0) []:=Rd.empty k47 _ _ _ _ _ hq0 (Nat.le_trans hWb (Below.refl W.heap.size W).size) trivial (by decide)
          refine hK.out _ _ (hSk _ hB0) (fun hS=>?_)
          refine norm_ (a':=?_) ?_ ?_
          rotate_left
          ·show Act.put _ (some 88) _=_
           simp only [Act.put,zp1,zp2,zp3,zp4,zp5]
           rfl
          refine two_ (i:=3) (j:=8) (Ni:=some 91) (Nj:=some 96) (Sq.bl 12 255) (Sq.bl 12 503) rfl rfl rfl rfl (by kernel_rfl) (by decide) (by decide) (fun K hK=>?_) (fun K hK=>?_)
          ·skip
           refine Kd.R_append_rows_step k47 (w0:=W) (w.heap.size) (by rfl) (.tmp 88) (.tmp 90) 22 47 (.agg #[(.int .i64 0),(.slice none 0 0)]) 32 rfl Try.underlying22 info47 rfl (by decide) (by omega) (.slice (some ⟨W.heap.size,0,none⟩) 0 0) [] h.f4 _ _ _ (fun _=>True) (fun k_=>k_<W.heap.size) rfl rfl hr0 (hCk _ hB0) (fun _ _ h=>h) (fun k_ hk_=>⟨trivial,fun e_=>by simp [Value.ownBlock] at e_;omega⟩) (fun _ _=>trivial) (hB0.mono hWb) (Nat.le_trans hWb hB0.size) ?aL ?_
           (case aL=>simp only [List.length_nil];omega)
           intro v1 w1 hr1 hB1_ hg1 hat1
           have hB1:=Rd.grown_new hB0 hg1 (by simp [Value.ownBlock])
           have hn1:=Rd.own_new hat1 hB0.size (by simp [Value.ownBlock])
           clear hB1_
           refine hK.out _ _ (hSk _ hB1) (fun hS=>?_)
           refine norm_ (a':=?_) ?_ ?_
           rotate_left
           ·show Act.put _ (some 91) _=_
            simp only [Act.put,zp1,zp2,zp3,zp4,zp5]
            rfl
           refine one_ (i:=8) (N:=some 96) (Sq.bl 12 511) rfl rfl (by kernel_rfl) (by decide) (fun K hK=>?_)
           refine value_ (w1:=?_) (v:=?_) (by rfl) rfl ?_ ?_
           rotate_left 2
           ·go_simp
            constructor
            ·rfl
            ·rfl
           have hB2:=hB1.alloc hB1.size (.cells #[.int .i64 x.f0, .slice A1 x.f1.length c1] 47)
           have hl2:=World.alloc_heap_new w1 (.cells #[.int .i64 x.f0, .slice A1 x.f1.length c1] 47)
           have hr2:=Kd.R_alloc hr1 (.cells #[.int .i64 x.f0, .slice A1 x.f1.length c1] 47)
           refine hK.out _ _ (hSk _ hB2) (fun hS=>?_)
           refine norm_ (a':=?_) ?_ ?_
           rotate_left
           ·show Act.put _ (some 96) _=_
            simp only [Act.put,zp1,zp2,zp3,zp4,zp5]
            rfl
           exact hcont (.slice (some ⟨W.heap.size,0,none⟩) 0 0,v1, .slice (some ⟨w1.heap.size,0,none⟩) 1 1) _ ⟨hB2,hr2,_,rfl,hl2,(fun e_=>by have h_:=Kd.R_lt hr1 _ e_.symm;omega),hB1.size,hn1⟩
          ·skip
           refine value_ (w1:=?_) (v:=?_) (by rfl) rfl ?_ ?_
           rotate_left 2
           ·go_simp
            constructor
            ·rfl
            ·rfl
           have hB2:=hB0.alloc hB0.size (.cells #[.int .i64 x.f0, .slice A1 x.f1.length c1] 47)
           have hl2:=World.alloc_heap_new (W.alloc (.cells #[] 47)) (.cells #[.int .i64 x.f0, .slice A1 x.f1.length c1] 47)
           simp only [World.size_alloc] at hl2
           have hr02:=Kd.R_alloc hr0 (.cells #[.int .i64 x.f0, .slice A1 x.f1.length c1] 47)
           refine hK.out _ _ (hSk _ hB2) (fun hS=>?_)
           refine norm_ (a':=?_) ?_ ?_
           rotate_left
           ·show Act.put _ (some 96) _=_
            simp only [Act.put,zp1,zp2,zp3,zp4,zp5]
            rfl
           refine one_ (i:=3) (N:=some 91) (Sq.bl 12 511) rfl rfl (by kernel_rfl) (by decide) (fun K hK=>?_)
           refine Kd.R_append_rows_step k47 (w0:=W) (w.heap.size) (by rfl) (.tmp 88) (.tmp 90) 22 47 (.agg #[(.int .i64 0),(.slice none 0 0)]) 32 rfl Try.underlying22 info47 rfl (by decide) (by omega) (.slice (some ⟨W.heap.size,0,none⟩) 0 0) [] h.f4 _ _ _ (fun _=>True) (fun k_=>k_<W.heap.size) rfl rfl hr02 (hCk _ hB2) (fun _ _ h=>h) (fun k_ hk_=>⟨trivial,fun e_=>by simp [Value.ownBlock] at e_;omega⟩) (fun _ _=>trivial) (hB2.mono hWb) (Nat.le_trans hWb hB2.size) ?aL ?_
           (case aL=>simp only [List.length_nil];omega)
           intro v1 w1 hr1 hB1_ hg1 hat1
           have hB1:=Rd.grown_new hB2 hg1 (by simp [Value.ownBlock])
           have hn1:=Rd.own_new hat1 hB2.size (by simp [Value.ownBlock])
           clear hB1_
           have hl1:=(hg1.block _ (blk_lt hl2) (by simp [Value.ownBlock])).trans hl2
           refine hK.out _ _ (hSk _ hB1) (fun hS=>?_)
           refine norm_ (a':=?_) ?_ ?_
           rotate_left
           ·show Act.put _ (some 91) _=_
            simp only [Act.put,zp1,zp2,zp3,zp4,zp5]
            rfl
           exact hcont (.slice (some ⟨W.heap.size,0,none⟩) 0 0,v1, .slice (some ⟨W.heap.size+1,0,none⟩) 1 1) _ ⟨hB1,hr1,_,rfl,hl1,Rd.lit_ne hr0 hr1 hat1 hl2 (by simp),by simp,hn1⟩
         ·skip
          refine value_ (w1:=?_) (v:=?_) (by rfl) rfl ?_ ?_
          rotate_left 2
          ·go_simp
           constructor
           ·rfl
           ·rfl
          have hB2:=(Below.refl W.heap.size W).alloc (Below.refl W.heap.size W).size (.cells #[.int .i64 x.f0, .slice A1 x.f1.length c1] 47)
          have hl2:=World.alloc_heap_new W (.cells #[.int .i64 x.f0, .slice A1 x.f1.length c1] 47)
          refine hK.out _ _ (hSk _ hB2) (fun hS=>?_)
          refine norm_ (a':=?_) ?_ ?_
          rotate_left
          ·show Act.put _ (some 96) _=_
           simp only [Act.put,zp1,zp2,zp3,zp4,zp5]
           rfl
          refine one_ (i:=0) (N:=some 88) (Sq.bl 12 503) rfl rfl (by kernel_rfl) (by decide) (fun K hK=>?_)
          refine value_ (w1:=?_) (v:=?_) (by rfl) rfl ?_ ?_
          rotate_left 2
          ·go_simp
           constructor
           ·rfl
           ·rfl
          have hB0:=hB2.alloc hB2.size (.cells #[] 47)
          have hq0:=World.alloc_heap_new (W.alloc (.cells #[.int .i64 x.f0, .slice A1 x.f1.length c1] 47)) (.cells #[] 47)
          have hr0:Kd.R k47 47 ((W.alloc (.cells #[.int .i64 x.f0, .slice A1 x.f1.length c1] 47)).alloc (.cells #[] 47)) (w.heap.size) (fun _=>True) (.slice (some ⟨(W.alloc (.cells #[.int .i64 x.f0, .slice A1 x.f1.length c1] 47)).heap.size,0,none⟩) 0 0) []:=Rd.empty k47 _ _ _ _ _ hq0 (Nat.le_trans hWb hB2.size) trivial (by decide)
          simp only [World.size_alloc] at hr0 hq0
          have hl0:=blk_alloc hl2 (.cells #[] 47)
          refine hK.out _ _ (hSk _ hB0) (fun hS=>?_)
          refine norm_ (a':=?_) ?_ ?_
          rotate_left
          ·show Act.put _ (some 88) _=_
           simp only [Act.put,zp1,zp2,zp3,zp4,zp5]
           rfl
          refine one_ (i:=3) (N:=some 91) (Sq.bl 12 511) rfl rfl (by kernel_rfl) (by decide) (fun K hK=>?_)
          refine Kd.R_append_rows_step k47 (w0:=W) (w.heap.size) (by rfl) (.tmp 88) (.tmp 90) 22 47 (.agg #[(.int .i64 0),(.slice none 0 0)]) 32 rfl Try.underlying22 info47 rfl (by decide) (by omega) (.slice (some ⟨W.heap.size+1,0,none⟩) 0 0) [] h.f4 _ _ _ (fun _=>True) (fun k_=>k_<W.heap.size) rfl rfl hr0 (hCk _ hB0) (fun _ _ h=>h) (fun k_ hk_=>⟨trivial,fun e_=>by simp [Value.ownBlock] at e_;omega⟩) (fun _ _=>trivial) (hB0.mono hWb) (Nat.le_trans hWb hB0.size) ?aL ?_
          (case aL=>simp only [List.length_nil];omega)
          intro v1 w1 hr1 hB1_ hg1 hat1
          have hB1:=Rd.grown_new hB0 hg1 (by simp [Value.ownBlock])
          have hn1:=Rd.own_new hat1 hB0.size (by simp [Value.ownBlock])
          clear hB1_
          have hl1:=(hg1.block _ (blk_lt hl0) (by simp [Value.ownBlock])).trans hl0
          refine hK.out _ _ (hSk _ hB1) (fun hS=>?_)
          refine norm_ (a':=?_) ?_ ?_
          rotate_left
          ·show Act.put _ (some 91) _=_
           simp only [Act.put,zp1,zp2,zp3,zp4,zp5]
           rfl
          exact hcont (.slice (some ⟨W.heap.size+1,0,none⟩) 0 0,v1, .slice (some ⟨W.heap.size,0,none⟩) 1 1) _ ⟨hB1,hr1,_,rfl,hl1,Rd.lit_ne2 hr1 hat1 (by simp [Value.ownBlock]) (by simp only [World.size_alloc];omega),Nat.le_refl _,hn1⟩
        case tail=>
         rintro ⟨s88_,s91_,s96_⟩ wt ⟨hBt,hRt,gt,he_,hlt_,hnt,hgt,hot⟩
         simp only at he_ hRt hnt hot
         subst he_
         have hS:=hSk _ hBt
         simp only [putAll,Act.put,List.setIfInBounds_toArray,List.set_cons_zero,List.set_cons_succ]
         refine one_ (i:=9) (N:=some 97) (Sq.bl 12 1023) rfl rfl (by kernel_rfl) (by decide) (fun K hK=>?_)
         refine Kd.R_append_rows_step k47 (Rr:=fun y c_=>y=x∧c_= [.int .i64 x.f0, .slice A1 x.f1.length c1]) (w0:=W) w.heap.size (by rfl) (.tmp 91) (.tmp 96) 22 47 (.agg #[(.int .i64 0),(.slice none 0 0)]) 32 rfl Try.underlying22 info47 rfl (by decide) (by omega) s91_ h.f4 [x] _ _ _ (fun _=>True) (fun k_=>k_<W.heap.size) rfl rfl hRt (Rd.lit_reads x 2 rfl hlt_ (by intro u hu;simp at hu;rcases hu with rfl|rfl<;>rfl)) (fun y c_ hy=>by rw [hy.1,hy.2];exact k47_mkM _ _ _ x (Kd.R_mono (Kd.R_bound HV1W) (fun k_ hk_=>hk_.2.2.1) |> fun h_=>Kd.R_below h_ hBt)) (fun k_ hk_=>⟨trivial,fun e_=>by have:=hot k_ e_.symm;omega⟩) (fun _ _=>trivial) (hBt.mono hWb) (Nat.le_trans hWb hBt.size) ?aL ?_
         (case aL=>omega)
         intro v97 w97 hr97 hB97_ hg97 hat97
         obtain⟨A97,c97,rfl⟩:=Kd.R_slice hr97
         have hB97:=Rd.grown_new hBt hg97 hot
         have hX97:=(hB97.block _ hsW).trans hXW.out
         have hf97:=blk_frozen hX97 4
         refine hK.out _ _ (hSk _ hB97) (fun hS=>?_)
         clear hK K
         refine norm_ (a':=?_) ?_ ?_
         rotate_left
         ·show Act.put _ (some 97) _=_
          simp only [Act.put,zp1,zp2,zp3,zp4,zp5]
          rfl
         refine Sq.pu (v:=?_) (a':=?_) 10 98 (Sq.bl 12 2047) (by kernel_rfl) rfl rfl (fun _ _ _ h=>h) (by rfl) ?_ ?_ ?_;rotate_left;(· intro w';go_simp;with_reducible rfl);rotate_left;(· simp only [Act.put,zp1,zp2,zp3,zp4,zp5];rfl)
         refine last_ (i:=11) (N:=none) (Sq.bl 12 4095) rfl rfl (by kernel_rfl) (by decide) (fun K hK=>?_)
         refine skip_ (w1:=?_) (by rfl) rfl ?_ ?_
         rotate_left
         ·go_simp
          rfl
         refine hK.out _ _ ?_
         clear hK K
         refine done_ (by kernel_rfl) ?_
         have hb5:(w97.setCell ⟨wq.heap.size,4,none⟩ (.slice A97 (h.f4++ [x]).length c97)).heap[wq.heap.size]? =some (.cells #[.int .i64 h.f0, .int .i64 h.f1, .int .i64 h.f2, .int .i64 h.f3, .slice A97 (h.f4++ [x]).length c97] 44 (0,0)):=(blk_set hX97 4 _).trans rfl
         have hcg97:=(hB97.block _ (Nat.lt_trans hgoX hsW)).trans hcgw
         have hR5:=Kd.R_far (p:=⟨wq.heap.size,4,none⟩) (Kd.R_below hRob hB97) (fun k_ hk_=>by show k_≠wq.heap.size;omega) (.slice A97 (h.f4++ [x]).length c97)
         have hv5:=Kd.R_set (Kd.R_types hr97 hcg97 (by decide)) hX97 (by decide) 4 (.slice A97 (h.f4++ [x]).length c97)
         have hBX:Below w2.heap.size w2 (w97.setCell ⟨wq.heap.size,4,none⟩ (.slice A97 (h.f4++ [x]).length c97)):=(hBw.trans (hB97.mono hBw.size)).setCell HBq.out.size _
         have e97:(h.f4++ [x]).length=h.f4.length+1:=by simp
         rw [e97] at hb5 hR5 hv5 hBX
         clear hS hf97 hX97 hr97 hB97 hB97_ hg97 hat97 hRt hBt hlt_ hnt hgt hot hSk hCk hXW HV1W hcgw hcg97 hRo hR4w hRob
         generalize w97.setCell ⟨wq.heap.size,4,none⟩ (.slice A97 (h.f4.length+1) c97)=W5 at hb5 hR5 hv5 hBX ⊢
         have hy0:=blk_cell hb5 0
         have hy1:=blk_cell hb5 1
         have hy2:=blk_cell hb5 2
         have hy3:=blk_cell hb5 3
         have hy4:=blk_cell hb5 4
         have hyf1:=blk_frozen hb5 1
         have hyf3:=blk_frozen hb5 3
         have HB5:=Aside0.mk hb5
         have HR5:=Aside0.mk hR5
         have HV5:=Aside0.mk hv5
         have HBX:=Aside0.mk hBX
         clear hb5 hR5 hv5 hBX
         obtain⟨⟨hf01,hf02⟩,⟨hf21,hf22⟩,_⟩:=HK.out.2.2.2 h (by simp)
         have HR7:=Aside0.mk (Kd.R_mono (Kd.R_far (p:=⟨wq.heap.size,3,none⟩) (Kd.R_far (p:=⟨wq.heap.size,1,none⟩) HR5.out (fun k_ hk_=>by show k_≠wq.heap.size;omega) (.int .i64 (((a:Int)+1)-h.f0))) (fun k_ hk_=>by show k_≠wq.heap.size;omega) (.int .i64 (((b:Int)+1)-h.f2))) (fun _ _=>trivial))
         have HV7:=Aside0.mk (Kd.R_mono (Kd.R_set (Kd.R_set HV5.out HB5.out (by decide) 1 (.int .i64 (((a:Int)+1)-h.f0))) (blk_set HB5.out 1 _) (by decide) 3 (.int .i64 (((b:Int)+1)-h.f2))) (fun _ hk=>hk.2))
         have HB7:=Aside0.mk ((HBX.out.setCell (p:=⟨wq.heap.size,1,none⟩) HBq.out.size (.int .i64 (((a:Int)+1)-h.f0))).setCell (p:=⟨wq.heap.size,3,none⟩) HBq.out.size (.int .i64 (((b:Int)+1)-h.f2)))
         go_wp2_with(refine jalousieref09_Build.store5 (w0:=w) w.heap.size ⟨h.f0,(((a:Int)+1)-h.f0),h.f2,(((b:Int)+1)-h.f2),h.f4++ [x]⟩ rfl rfl rfl (by rfl) (by rfl) HR7.out HO.out HV7.out (HB2.out.trans (HB7.out.mono HB2.out.size)) ?_;intro w8 hr8 hb8 hg8)
         go_roundw
         case rel=>
          obtain rfl:=HQ1.out
          refine⟨i+1,_,by omega,by rfl,by rfl,rfl,by rfl,Hlp.out,hr8,?_,?_,Rd.grown_new HB7.out hg8 (fun k_ e_=>HOWNq.out k_ e_)⟩
          ·exact HOWNq.out
          ·have hk0:=HK.out
           have hk1:=hk0.1
           have hk4:=hk0.2.2.2
           have hhl:=(hk4 h (by simp)).2.2
           refine⟨?_,?_,?_,?_⟩
           ·simp only [List.length_append,List.length_singleton] at hk1 ⊢
            omega
           ·simp only
            omega
           ·simp only
            omega
           ·intro y hy
            simp only [List.mem_append,List.mem_singleton] at hy
            rcases hy with hy|rfl
            ·exact⟨(hk4 y (by simp [hy])).1,(hk4 y (by simp [hy])).2.1,Nat.le_succ_of_le (hk4 y (by simp [hy])).2.2⟩
            ·refine⟨⟨hf01,hf02⟩,⟨hf21,hf22⟩,?_⟩
             simp only [List.length_append,List.length_singleton]
             omega
         case measure=>
          simp only [intOf,Int.toNat_natCast]
          omega
      ·rw [if_neg h1] at his
       have h23:x.f0=2∨x.f0=3:=by
        split at his
        ·assumption
        ·cases his
       have hf1:(x.f0 != 1)=true:=by simp [h1]
       clear his
       by_cases h2:x.f0=2
       ·have hf2:(x.f0 != 2)=false:=by simp [h2]
        have hf3:(x.f0 != 3)=true:=by simp [h2]
        rw [if_neg (show ¬x.f0=3 by omega),if_pos h2] at hq1
        cases on with
        | true=>
         rw [if_pos rfl] at hq1
         split at hq1
         ·cases hq1
         rename_i h tr hrev
         have HQ1:=Aside0.mk (Option.some.inj hq1)
         have ho:out=tr.reverse++ [h]:=by
          have:=congrArg List.reverse hrev
          simpa using this
         generalize tr.reverse=tt at ho HQ1
         obtain⟨m,hm⟩: ∃m,m=tt.length:=⟨_,rfl⟩;have hol:out.length=m+1:=(by rw [ho,hm];simp);obtain⟨Ao,co,ev⟩:=Kd.R_slice HR.out;rw [hol] at ev;subst ev;obtain⟨go,rfl⟩:=jalousieref09_Build.addr HR.out;have HO:=Aside0.mk ho;have HM:=Aside0.mk hm;have HOL:=Aside0.mk hol;have hm9:m≤1000000:=(by omega);have HK:Aside0 (tt.length≤i∧a≤i∧b≤i∧ ∀y∈tt++ [h],(0≤y.f0∧y.f0≤1000000)∧(0≤y.f2∧y.f2≤1000000)∧y.f4.length≤i):=⟨by have hk1:=Hok.out.1;have hk4:=Hok.out.2.2.2;simp only at hk1 hk4;rw [ho] at hk1 hk4;exact⟨by simp only [List.length_append,List.length_singleton] at hk1;omega,hob2,hob3,hk4⟩⟩;clear hq1 hrev h1 h2 h23 ho hm hol;have hRk:=HR.out;obtain⟨_,A4,c4,hl0,hl1,hl2,hl3,hl4,hlc4,hR4,hfz,cg,hcg⟩:=jalousieref09_Build.last hRk HO.out
         go_wp2
         have hXb:=World.alloc_heap_new wr (.cells #[.int .i64 h.f0, .int .i64 h.f1, .int .i64 h.f2, .int .i64 h.f3, .slice A4 h.f4.length c4] 44 (0,0))
         have hal:Below wr.heap.size wr (wr.alloc (.cells #[.int .i64 h.f0, .int .i64 h.f1, .int .i64 h.f2, .int .i64 h.f3, .slice A4 h.f4.length c4] 44)):=below_alloc (Below.refl _ _) _
         have hBw:=HB.out.trans (hal.mono HB.out.size)
         have hRo:=Kd.R_below hRk hal
         have hR4w:=Kd.R_below hR4 hal
         have hcgw:=blk_alloc hcg (.cells #[.int .i64 h.f0, .int .i64 h.f1, .int .i64 h.f2, .int .i64 h.f3, .slice A4 h.f4.length c4] 44)
         have hsx:wr.heap.size<(wr.alloc (.cells #[.int .i64 h.f0, .int .i64 h.f1, .int .i64 h.f2, .int .i64 h.f3, .slice A4 h.f4.length c4] 44)).heap.size:=blk_lt hXb
         have hh4:h.f4.length≤1000000:=by
          have:=(HK.out.2.2.2 h (by simp)).2.2
          omega
         replace hXb:=blk_drew hXb
         replace hBw:=hBw.drew
         replace hRo:=Kd.R_drew hRo
         replace hR4w:=Kd.R_drew hR4w
         replace hcgw:=blk_drew hcgw
         have hRob:=Kd.R_drew (Kd.R_below (Kd.R_mono (Kd.R_bound hRk) (ok':=fun k_=>k_<wr.heap.size) (fun k_ hk_=>hk_.2.2.1)) hal)
         have hgoX:go<wr.heap.size:=Kd.R_lt hRk go (by simp [Value.ownBlock])
         clear hal hRk hR4 hl0 hl1 hl2 hl3 hl4 hx0 hx1
         obtain⟨W,hWe⟩: ∃W,W=(wr.alloc (.cells #[.int .i64 h.f0, .int .i64 h.f1, .int .i64 h.f2, .int .i64 h.f3, .slice A4 h.f4.length c4] 44)).drew:=⟨_,rfl⟩
         rw [← hWe] at hXb hBw hRo hR4w hcgw hRob
         have hsW:wr.heap.size<W.heap.size:=by rw [hWe];exact hsx
         have hWb:w.heap.size≤W.heap.size:=Nat.le_trans HB2.out.size hBw.size
         have hSk: ∀Y:World,Below W.heap.size W Y→Y.cell? ⟨wr.heap.size,4,none⟩=some (.slice A4 h.f4.length c4)∧Y.cell? ⟨gl,i*2,none⟩=some (.int .i64 x.f0)∧Y.cell? ⟨gl,i*2+1,none⟩=some (.slice A1 x.f1.length c1):=fun Y hY=>⟨(hY.cell hsW).trans ((blk_cell hXb 4).trans rfl),HXY.out Y (hBw.trans (hY.mono hBw.size))⟩
         have hCk: ∀Y:World,Below W.heap.size W Y→ReadsRow (k47.M Y w.heap.size (fun k_=>k_<W.heap.size)) 2 Y A4 h.f4.length h.f4:=fun Y hY=>by
          have h1:=Kd.R_below (Kd.R_mono (Kd.R_bound hR4w) (ok':=fun k_=>k_<W.heap.size) (fun k_ hk_=>hk_.2.2.1)) hY
          obtain⟨A_,c_,e_,_,hr_⟩:=OwnRow.reads h1.2
          injection e_ with e_ _ _
          subst e_
          exact ReadsRow.imp_ hr_ (Below.refl _ _) (fun _ _ hp=>k47.M_mono (fun _ hk=>hk.1) hp)
         have hXW:=Aside0.mk hXb
         have HV1W:=Kd.R_lower (Kd.R_below HV1.out hBw) HB12.out
         have hS0:=hSk W (Below.refl _ _)
         clear hXb
         refine start_ (n:=12) (S:=fun w'=>w'.cell? ⟨wr.heap.size,4,none⟩=some (.slice A4 h.f4.length c4)∧w'.cell? ⟨gl,i*2,none⟩=some (.int .i64 x.f0)∧w'.cell? ⟨gl,i*2+1,none⟩=some (.slice A1 x.f1.length c1)) (ds:= [11]) (Sq.bl 12 0) (by kernel_rfl) rfl (by rfl) (by rw [← hWe];exact hS0) (fun hS=>?_)
         rw [← hWe] at hS ⊢;clear hWe hS0 hsx
         refine Sq.pu (v:=?_) (a':=?_) 1 89 (Sq.bl 12 2) (by kernel_rfl) rfl rfl (fun _ _ _ h=>h) (by rfl) ?_ ?_ ?_;rotate_left;(· intro w';go_simp;with_reducible rfl);rotate_left;(· simp only [Act.put,zp1,zp2,zp3,zp4,zp5];rfl)
         refine Sq.pu (v:=?_) (a':=?_) 4 92 (Sq.bl 12 18) (by kernel_rfl) rfl rfl (fun _ _ _ h=>h) (by rfl) ?_ ?_ ?_;rotate_left;(· intro w';go_simp;with_reducible rfl);rotate_left;(· simp only [Act.put,zp1,zp2,zp3,zp4,zp5];rfl)
         refine Sq.pu (v:=?_) (a':=?_) 5 93 (Sq.bl 12 50) (by kernel_rfl) rfl rfl (fun _ _ _ h=>h) (by rfl) ?_ ?_ ?_;rotate_left;(· intro w';go_simp;with_reducible rfl);rotate_left;(· simp only [Act.put,zp1,zp2,zp3,zp4,zp5];rfl)
         refine Sq.pu (v:=?_) (a':=?_) 6 94 (Sq.bl 12 114) (by kernel_rfl) rfl rfl (fun _ _ _ h=>h) (by rfl) ?_ ?_ ?_;rotate_left;(· intro w';go_simp;with_reducible rfl);rotate_left;(· simp only [Act.put,zp1,zp2,zp3,zp4,zp5];rfl)
         refine take_ (i:=2) (N:=some 90) (v:=?_) (a':=?_) (Sq.bl 12 118) rfl rfl (by kernel_rfl) (fun _ _ _ h=>h) (Or.inl ⟨by rfl,?_⟩) hS ?_ ?_;rotate_left;(· rintro w' ⟨s0,s1,s2⟩;go_simp;with_reducible rfl);rotate_left;(· simp only [Act.put,zp1,zp2,zp3,zp4,zp5];rfl)
         refine take_ (i:=7) (N:=some 95) (v:=?_) (a':=?_) (Sq.bl 12 246) rfl rfl (by kernel_rfl) (fun _ _ _ h=>h) (Or.inl ⟨by rfl,?_⟩) hS ?_ ?_;rotate_left;(· rintro w' ⟨s0,s1,s2⟩;go_simp;with_reducible rfl);rotate_left;(· simp only [Act.put,zp1,zp2,zp3,zp4,zp5];rfl)
         refine join_ 3 (Sq.bl 12 511) (fun s:Value×Value×Value=> [(88,s.1),(91,s.2.1),(96,s.2.2)]) (fun s X=>Below W.heap.size W X∧Kd.R k47 47 X w.heap.size (fun _=>True) s.2.1 h.f4∧ ∃g,s.2.2= .slice (some ⟨g,0,none⟩) 1 1∧X.heap[g]? =some (.cells #[.int .i64 x.f0, .slice A1 x.f1.length c1] 47 (0,0))∧some g≠s.2.1.ownBlock∧W.heap.size≤g∧ ∀k_,s.2.1.ownBlock=some k_→W.heap.size≤k_) ?tail (fun hcont=> ?ord)
         case ord=>
          refine two_ (i:=0) (j:=8) (Ni:=some 88) (Nj:=some 96) (Sq.bl 12 247) (Sq.bl 12 502) rfl rfl rfl rfl (by kernel_rfl) (by decide) (by decide) (fun K hK=>?_) (fun K hK=>?_)
          ·skip
           refine value_ (w1:=?_) (v:=?_) (by rfl) rfl ?_ ?_
           rotate_left 2
           ·go_simp
            constructor
            ·rfl
            ·rfl
           have hB0:=(Below.refl W.heap.size W).alloc (Below.refl W.heap.size W).size (.cells #[] 47)
           have hq0:=World.alloc_heap_new W (.cells #[] 47)
           have hr0:Kd.R k47 47 (W.alloc (.cells #[] 47)) (w.heap.size) (fun _=>True) (.slice (some ⟨W.heap.size,0,none⟩) 0 0) []:=Rd.empty k47 _ _ _ _ _ hq0 (Nat.le_trans hWb (Below.refl W.heap.size W).size) trivial (by decide)
           refine hK.out _ _ (hSk _ hB0) (fun hS=>?_)
           refine norm_ (a':=?_) ?_ ?_
           rotate_left
           ·show Act.put _ (some 88) _=_
            simp only [Act.put,zp1,zp2,zp3,zp4,zp5]
            rfl
           refine two_ (i:=3) (j:=8) (Ni:=some 91) (Nj:=some 96) (Sq.bl 12 255) (Sq.bl 12 503) rfl rfl rfl rfl (by kernel_rfl) (by decide) (by decide) (fun K hK=>?_) (fun K hK=>?_)
           ·skip
            refine Kd.R_append_rows_step k47 (w0:=W) (w.heap.size) (by rfl) (.tmp 88) (.tmp 90) 22 47 (.agg #[(.int .i64 0),(.slice none 0 0)]) 32 rfl Try.underlying22 info47 rfl (by decide) (by omega) (.slice (some ⟨W.heap.size,0,none⟩) 0 0) [] h.f4 _ _ _ (fun _=>True) (fun k_=>k_<W.heap.size) rfl rfl hr0 (hCk _ hB0) (fun _ _ h=>h) (fun k_ hk_=>⟨trivial,fun e_=>by simp [Value.ownBlock] at e_;omega⟩) (fun _ _=>trivial) (hB0.mono hWb) (Nat.le_trans hWb hB0.size) ?aL ?_
            (case aL=>simp only [List.length_nil];omega)
            intro v1 w1 hr1 hB1_ hg1 hat1
            have hB1:=Rd.grown_new hB0 hg1 (by simp [Value.ownBlock])
            have hn1:=Rd.own_new hat1 hB0.size (by simp [Value.ownBlock])
            clear hB1_
            refine hK.out _ _ (hSk _ hB1) (fun hS=>?_)
            refine norm_ (a':=?_) ?_ ?_
            rotate_left
            ·show Act.put _ (some 91) _=_
             simp only [Act.put,zp1,zp2,zp3,zp4,zp5]
             rfl
            refine one_ (i:=8) (N:=some 96) (Sq.bl 12 511) rfl rfl (by kernel_rfl) (by decide) (fun K hK=>?_)
            refine value_ (w1:=?_) (v:=?_) (by rfl) rfl ?_ ?_
            rotate_left 2
            ·go_simp
             constructor
             ·rfl
             ·rfl
            have hB2:=hB1.alloc hB1.size (.cells #[.int .i64 x.f0, .slice A1 x.f1.length c1] 47)
            have hl2:=World.alloc_heap_new w1 (.cells #[.int .i64 x.f0, .slice A1 x.f1.length c1] 47)
            have hr2:=Kd.R_alloc hr1 (.cells #[.int .i64 x.f0, .slice A1 x.f1.length c1] 47)
            refine hK.out _ _ (hSk _ hB2) (fun hS=>?_)
            refine norm_ (a':=?_) ?_ ?_
            rotate_left
            ·show Act.put _ (some 96) _=_
             simp only [Act.put,zp1,zp2,zp3,zp4,zp5]
             rfl
            exact hcont (.slice (some ⟨W.heap.size,0,none⟩) 0 0,v1, .slice (some ⟨w1.heap.size,0,none⟩) 1 1) _ ⟨hB2,hr2,_,rfl,hl2,(fun e_=>by have h_:=Kd.R_lt hr1 _ e_.symm;omega),hB1.size,hn1⟩
           ·skip
            refine value_ (w1:=?_) (v:=?_) (by rfl) rfl ?_ ?_
            rotate_left 2
            ·go_simp
             constructor
             ·rfl
             ·rfl
            have hB2:=hB0.alloc hB0.size (.cells #[.int .i64 x.f0, .slice A1 x.f1.length c1] 47)
            have hl2:=World.alloc_heap_new (W.alloc (.cells #[] 47)) (.cells #[.int .i64 x.f0, .slice A1 x.f1.length c1] 47)
            simp only [World.size_alloc] at hl2
            have hr02:=Kd.R_alloc hr0 (.cells #[.int .i64 x.f0, .slice A1 x.f1.length c1] 47)
            refine hK.out _ _ (hSk _ hB2) (fun hS=>?_)
            refine norm_ (a':=?_) ?_ ?_
            rotate_left
            ·show Act.put _ (some 96) _=_
             simp only [Act.put,zp1,zp2,zp3,zp4,zp5]
             rfl
            refine one_ (i:=3) (N:=some 91) (Sq.bl 12 511) rfl rfl (by kernel_rfl) (by decide) (fun K hK=>?_)
            refine Kd.R_append_rows_step k47 (w0:=W) (w.heap.size) (by rfl) (.tmp 88) (.tmp 90) 22 47 (.agg #[(.int .i64 0),(.slice none 0 0)]) 32 rfl Try.underlying22 info47 rfl (by decide) (by omega) (.slice (some ⟨W.heap.size,0,none⟩) 0 0) [] h.f4 _ _ _ (fun _=>True) (fun k_=>k_<W.heap.size) rfl rfl hr02 (hCk _ hB2) (fun _ _ h=>h) (fun k_ hk_=>⟨trivial,fun e_=>by simp [Value.ownBlock] at e_;omega⟩) (fun _ _=>trivial) (hB2.mono hWb) (Nat.le_trans hWb hB2.size) ?aL ?_
            (case aL=>simp only [List.length_nil];omega)
            intro v1 w1 hr1 hB1_ hg1 hat1
            have hB1:=Rd.grown_new hB2 hg1 (by simp [Value.ownBlock])
            have hn1:=Rd.own_new hat1 hB2.size (by simp [Value.ownBlock])
            clear hB1_
            have hl1:=(hg1.block _ (blk_lt hl2) (by simp [Value.ownBlock])).trans hl2
            refine hK.out _ _ (hSk _ hB1) (fun hS=>?_)
            refine norm_ (a':=?_) ?_ ?_
            rotate_left
            ·show Act.put _ (some 91) _=_
             simp only [Act.put,zp1,zp2,zp3,zp4,zp5]
             rfl
            exact hcont (.slice (some ⟨W.heap.size,0,none⟩) 0 0,v1, .slice (some ⟨W.heap.size+1,0,none⟩) 1 1) _ ⟨hB1,hr1,_,rfl,hl1,Rd.lit_ne hr0 hr1 hat1 hl2 (by simp),by simp,hn1⟩
          ·skip
           refine value_ (w1:=?_) (v:=?_) (by rfl) rfl ?_ ?_
           rotate_left 2
           ·go_simp
            constructor
            ·rfl
            ·rfl
           have hB2:=(Below.refl W.heap.size W).alloc (Below.refl W.heap.size W).size (.cells #[.int .i64 x.f0, .slice A1 x.f1.length c1] 47)
           have hl2:=World.alloc_heap_new W (.cells #[.int .i64 x.f0, .slice A1 x.f1.length c1] 47)
           refine hK.out _ _ (hSk _ hB2) (fun hS=>?_)
           refine norm_ (a':=?_) ?_ ?_
           rotate_left
           ·show Act.put _ (some 96) _=_
            simp only [Act.put,zp1,zp2,zp3,zp4,zp5]
            rfl
           refine one_ (i:=0) (N:=some 88) (Sq.bl 12 503) rfl rfl (by kernel_rfl) (by decide) (fun K hK=>?_)
           refine value_ (w1:=?_) (v:=?_) (by rfl) rfl ?_ ?_
           rotate_left 2
           ·go_simp
            constructor
            ·rfl
            ·rfl
           have hB0:=hB2.alloc hB2.size (.cells #[] 47)
           have hq0:=World.alloc_heap_new (W.alloc (.cells #[.int .i64 x.f0, .slice A1 x.f1.length c1] 47)) (.cells #[] 47)
           have hr0:Kd.R k47 47 ((W.alloc (.cells #[.int .i64 x.f0, .slice A1 x.f1.length c1] 47)).alloc (.cells #[] 47)) (w.heap.size) (fun _=>True) (.slice (some ⟨(W.alloc (.cells #[.int .i64 x.f0, .slice A1 x.f1.length c1] 47)).heap.size,0,none⟩) 0 0) []:=Rd.empty k47 _ _ _ _ _ hq0 (Nat.le_trans hWb hB2.size) trivial (by decide)
           simp only [World.size_alloc] at hr0 hq0
           have hl0:=blk_alloc hl2 (.cells #[] 47)
           refine hK.out _ _ (hSk _ hB0) (fun hS=>?_)
           refine norm_ (a':=?_) ?_ ?_
           rotate_left
           ·show Act.put _ (some 88) _=_
            simp only [Act.put,zp1,zp2,zp3,zp4,zp5]
            rfl
           refine one_ (i:=3) (N:=some 91) (Sq.bl 12 511) rfl rfl (by kernel_rfl) (by decide) (fun K hK=>?_)
           refine Kd.R_append_rows_step k47 (w0:=W) (w.heap.size) (by rfl) (.tmp 88) (.tmp 90) 22 47 (.agg #[(.int .i64 0),(.slice none 0 0)]) 32 rfl Try.underlying22 info47 rfl (by decide) (by omega) (.slice (some ⟨W.heap.size+1,0,none⟩) 0 0) [] h.f4 _ _ _ (fun _=>True) (fun k_=>k_<W.heap.size) rfl rfl hr0 (hCk _ hB0) (fun _ _ h=>h) (fun k_ hk_=>⟨trivial,fun e_=>by simp [Value.ownBlock] at e_;omega⟩) (fun _ _=>trivial) (hB0.mono hWb) (Nat.le_trans hWb hB0.size) ?aL ?_
           (case aL=>simp only [List.length_nil];omega)
           intro v1 w1 hr1 hB1_ hg1 hat1
           have hB1:=Rd.grown_new hB0 hg1 (by simp [Value.ownBlock])
           have hn1:=Rd.own_new hat1 hB0.size (by simp [Value.ownBlock])
           clear hB1_
           have hl1:=(hg1.block _ (blk_lt hl0) (by simp [Value.ownBlock])).trans hl0
           refine hK.out _ _ (hSk _ hB1) (fun hS=>?_)
           refine norm_ (a':=?_) ?_ ?_
           rotate_left
           ·show Act.put _ (some 91) _=_
            simp only [Act.put,zp1,zp2,zp3,zp4,zp5]
            rfl
           exact hcont (.slice (some ⟨W.heap.size+1,0,none⟩) 0 0,v1, .slice (some ⟨W.heap.size,0,none⟩) 1 1) _ ⟨hB1,hr1,_,rfl,hl1,Rd.lit_ne2 hr1 hat1 (by simp [Value.ownBlock]) (by simp only [World.size_alloc];omega),Nat.le_refl _,hn1⟩
         case tail=>
          rintro ⟨s88_,s91_,s96_⟩ wt ⟨hBt,hRt,gt,he_,hlt_,hnt,hgt,hot⟩
          simp only at he_ hRt hnt hot
          subst he_
          have hS:=hSk _ hBt
          simp only [putAll,Act.put,List.setIfInBounds_toArray,List.set_cons_zero,List.set_cons_succ]
          refine one_ (i:=9) (N:=some 97) (Sq.bl 12 1023) rfl rfl (by kernel_rfl) (by decide) (fun K hK=>?_)
          refine Kd.R_append_rows_step k47 (Rr:=fun y c_=>y=x∧c_= [.int .i64 x.f0, .slice A1 x.f1.length c1]) (w0:=W) w.heap.size (by rfl) (.tmp 91) (.tmp 96) 22 47 (.agg #[(.int .i64 0),(.slice none 0 0)]) 32 rfl Try.underlying22 info47 rfl (by decide) (by omega) s91_ h.f4 [x] _ _ _ (fun _=>True) (fun k_=>k_<W.heap.size) rfl rfl hRt (Rd.lit_reads x 2 rfl hlt_ (by intro u hu;simp at hu;rcases hu with rfl|rfl<;>rfl)) (fun y c_ hy=>by rw [hy.1,hy.2];exact k47_mkM _ _ _ x (Kd.R_mono (Kd.R_bound HV1W) (fun k_ hk_=>hk_.2.2.1) |> fun h_=>Kd.R_below h_ hBt)) (fun k_ hk_=>⟨trivial,fun e_=>by have:=hot k_ e_.symm;omega⟩) (fun _ _=>trivial) (hBt.mono hWb) (Nat.le_trans hWb hBt.size) ?aL ?_
          (case aL=>omega)
          intro v97 w97 hr97 hB97_ hg97 hat97
          obtain⟨A97,c97,rfl⟩:=Kd.R_slice hr97
          have hB97:=Rd.grown_new hBt hg97 hot
          have hX97:=(hB97.block _ hsW).trans hXW.out
          have hf97:=blk_frozen hX97 4
          refine hK.out _ _ (hSk _ hB97) (fun hS=>?_)
          clear hK K
          refine norm_ (a':=?_) ?_ ?_
          rotate_left
          ·show Act.put _ (some 97) _=_
           simp only [Act.put,zp1,zp2,zp3,zp4,zp5]
           rfl
          refine Sq.pu (v:=?_) (a':=?_) 10 98 (Sq.bl 12 2047) (by kernel_rfl) rfl rfl (fun _ _ _ h=>h) (by rfl) ?_ ?_ ?_;rotate_left;(· intro w';go_simp;with_reducible rfl);rotate_left;(· simp only [Act.put,zp1,zp2,zp3,zp4,zp5];rfl)
          refine last_ (i:=11) (N:=none) (Sq.bl 12 4095) rfl rfl (by kernel_rfl) (by decide) (fun K hK=>?_)
          refine skip_ (w1:=?_) (by rfl) rfl ?_ ?_
          rotate_left
          ·go_simp
           rfl
          refine hK.out _ _ ?_
          clear hK K
          refine done_ (by kernel_rfl) ?_
          have hb5:(w97.setCell ⟨wr.heap.size,4,none⟩ (.slice A97 (h.f4++ [x]).length c97)).heap[wr.heap.size]? =some (.cells #[.int .i64 h.f0, .int .i64 h.f1, .int .i64 h.f2, .int .i64 h.f3, .slice A97 (h.f4++ [x]).length c97] 44 (0,0)):=(blk_set hX97 4 _).trans rfl
          have hcg97:=(hB97.block _ (Nat.lt_trans hgoX hsW)).trans hcgw
          have hR5:=Kd.R_far (p:=⟨wr.heap.size,4,none⟩) (Kd.R_below hRob hB97) (fun k_ hk_=>by show k_≠wr.heap.size;omega) (.slice A97 (h.f4++ [x]).length c97)
          have hv5:=Kd.R_set (Kd.R_types hr97 hcg97 (by decide)) hX97 (by decide) 4 (.slice A97 (h.f4++ [x]).length c97)
          have hBX:Below w2.heap.size w2 (w97.setCell ⟨wr.heap.size,4,none⟩ (.slice A97 (h.f4++ [x]).length c97)):=(hBw.trans (hB97.mono hBw.size)).setCell HB.out.size _
          have e97:(h.f4++ [x]).length=h.f4.length+1:=by simp
          rw [e97] at hb5 hR5 hv5 hBX
          clear hS hf97 hX97 hr97 hB97 hB97_ hg97 hat97 hRt hBt hlt_ hnt hgt hot hSk hCk hXW HV1W hcgw hcg97 hRo hR4w hRob
          generalize w97.setCell ⟨wr.heap.size,4,none⟩ (.slice A97 (h.f4.length+1) c97)=W5 at hb5 hR5 hv5 hBX ⊢
          have hy0:=blk_cell hb5 0
          have hy1:=blk_cell hb5 1
          have hy2:=blk_cell hb5 2
          have hy3:=blk_cell hb5 3
          have hy4:=blk_cell hb5 4
          have hyf1:=blk_frozen hb5 1
          have hyf3:=blk_frozen hb5 3
          have HB5:=Aside0.mk hb5
          have HR5:=Aside0.mk hR5
          have HV5:=Aside0.mk hv5
          have HBX:=Aside0.mk hBX
          clear hb5 hR5 hv5 hBX
          obtain⟨⟨hf01,hf02⟩,⟨hf21,hf22⟩,_⟩:=HK.out.2.2.2 h (by simp)
          have HR7:=Aside0.mk (Kd.R_mono (Kd.R_far (p:=⟨wr.heap.size,3,none⟩) (Kd.R_far (p:=⟨wr.heap.size,1,none⟩) HR5.out (fun k_ hk_=>by show k_≠wr.heap.size;omega) (.int .i64 (((a:Int)+1)-h.f0))) (fun k_ hk_=>by show k_≠wr.heap.size;omega) (.int .i64 ((b:Int)-h.f2))) (fun _ _=>trivial))
          have HV7:=Aside0.mk (Kd.R_mono (Kd.R_set (Kd.R_set HV5.out HB5.out (by decide) 1 (.int .i64 (((a:Int)+1)-h.f0))) (blk_set HB5.out 1 _) (by decide) 3 (.int .i64 ((b:Int)-h.f2))) (fun _ hk=>hk.2))
          have HB7:=Aside0.mk ((HBX.out.setCell (p:=⟨wr.heap.size,1,none⟩) HB.out.size (.int .i64 (((a:Int)+1)-h.f0))).setCell (p:=⟨wr.heap.size,3,none⟩) HB.out.size (.int .i64 ((b:Int)-h.f2)))
          go_wp2_with(refine jalousieref09_Build.store5 (w0:=w) w.heap.size ⟨h.f0,(((a:Int)+1)-h.f0),h.f2,((b:Int)-h.f2),h.f4++ [x]⟩ rfl rfl rfl (by rfl) (by rfl) HR7.out HO.out HV7.out (HB2.out.trans (HB7.out.mono HB2.out.size)) ?_;intro w8 hr8 hb8 hg8)
          go_roundw
          case rel=>
           obtain rfl:=HQ1.out
           refine⟨i+1,_,by omega,by rfl,by rfl,rfl,by rfl,Hlp.out,hr8,?_,?_,Rd.grown_new HB7.out hg8 (fun k_ e_=>Hown.out k_ e_)⟩
           ·exact Hown.out
           ·have hk0:=HK.out
            have hk1:=hk0.1
            have hk4:=hk0.2.2.2
            have hhl:=(hk4 h (by simp)).2.2
            refine⟨?_,?_,?_,?_⟩
            ·simp only [List.length_append,List.length_singleton] at hk1 ⊢
             omega
            ·simp only
             omega
            ·simp only
             omega
            ·intro y hy
             simp only [List.mem_append,List.mem_singleton] at hy
             rcases hy with hy|rfl
             ·exact⟨(hk4 y (by simp [hy])).1,(hk4 y (by simp [hy])).2.1,Nat.le_succ_of_le (hk4 y (by simp [hy])).2.2⟩
             ·refine⟨⟨hf01,hf02⟩,⟨hf21,hf22⟩,?_⟩
              simp only [List.length_append,List.length_singleton]
              omega
          case measure=>
           simp only [intOf,Int.toNat_natCast]
           omega
        | false=>
         rw [if_neg (by simp),List.reverse_append] at hq1
         obtain⟨h,hh⟩: ∃h:S44,h=⟨(a:Int),0,(b:Int),0,[]⟩:=⟨_,rfl⟩
         rw [← hh] at hq1
         simp only [List.reverse_singleton,List.singleton_append,List.reverse_reverse] at hq1
         have HQ1:=Aside0.mk (Option.some.inj hq1)
         have HH:=Aside0.mk hh
         obtain⟨oo,hoo⟩: ∃oo,oo=out++ [h]:=⟨_,rfl⟩
         have HO:=Aside0.mk hoo
         clear hoo
         have HK:Aside0 (out.length≤i∧a≤i∧b≤i∧ ∀y∈out++ [h],(0≤y.f0∧y.f0≤1000000)∧(0≤y.f2∧y.f2≤1000000)∧y.f4.length≤i):=⟨by
          refine⟨hob1,hob2,hob3,?_⟩
          intro y hy
          simp only [List.mem_append,List.mem_singleton] at hy
          rcases hy with hy|rfl
          ·exact Hok.out.2.2.2 y hy
          ·rw [HH.out]
           refine⟨⟨?_,?_⟩,⟨?_,?_⟩,?_⟩<;>simp only [List.length_nil]<;>omega⟩
         obtain⟨m,hm⟩: ∃m,m=out.length:=⟨_,rfl⟩
         have HM:=Aside0.mk hm
         have hm9:m≤1000000:=by omega
         obtain⟨Ao0,co0,ev⟩:=Kd.R_slice HR.out
         subst ev
         clear hq1 hh hm h1 h2 h23
         go_wp2_with(((with_reducible refine gate_builtin (b:= .append) (xs:= #[.tmp 58, .tmp 62]) rfl ?_);at_builtin;refine Kd.R_append k44 (w0:=w) w.heap.size rfl (.tmp 58) (.tmp 62) 25 44 (.agg #[(.int .i64 0),(.int .i64 0),(.int .i64 0),(.int .i64 0),(.slice none 0 0)]) 56 rfl Try.underlying25 hunk_Build.infoH rfl (by decide) (by omega) (.slice Ao0 out.length co0) out h [.int .i64 (a:Int), .int .i64 0, .int .i64 (b:Int), .int .i64 0, .slice none 0 0] (fun _=>True) (fun _=>False) rfl rfl ?aP (fun _ hk=>hk.elim) ?aF ?aO ?aB ?aS ?aL ?_;(case aP=>rw [HH.out];exact k44_mkM _ _ _ (⟨(a:Int),0,(b:Int),0,[]⟩:S44) (Kd.R_nil _ _ _ _ _));(case aF=>exact fun _ _=>trivial);(case aO=>exact HR.out);(case aB=>exact HB2.out.trans (Below.mono (by repeat((with_reducible exact HB.out))) HB2.out.size));(case aS=>exact Nat.le_trans HB2.out.size (Below.size (by repeat((with_reducible exact HB.out)))));(case aL=>omega);intro v1_ wq ho_ hb_ hg_ hat_;rw [← HO.out] at ho_;have hy_:=Below.size (by repeat((with_reducible exact HB.out)));have HBq:Aside0 (Below w2.heap.size w2 wq):=⟨pw_below_grown (by repeat((with_reducible exact HB.out))) _ (Below.size (by repeat((with_reducible exact HB.out)))) hg_ (fun k_ e_=>Hown.out k_ e_)⟩;have hown_: ∀k_,v1_.ownBlock=some k_→w2.heap.size≤k_:=(fun k_ e_=>hat_.elim (fun e=>Hown.out k_ (e.symm.trans e_)) (fun ⟨b_,e,hle⟩=>Nat.le_trans hy_ (by have:=e.symm.trans e_;injection this with this;rw [← this];exact hle)));have hol1:oo.length=m+1:=(by rw [HO.out,HM.out];simp);obtain⟨Ao,co,ev⟩:=Kd.R_slice ho_;rw [hol1] at ev;subst ev;obtain⟨go,rfl⟩:=jalousieref09_Build.addr ho_;have HRq:=Aside0.mk ho_;have HOWNq:=Aside0.mk hown_;have hRk:=HRq.out;obtain⟨_,A4,c4,hl0,hl1,hl2,hl3,hl4,hlc4,hR4,hfz,cg,hcg⟩:=jalousieref09_Build.last hRk HO.out;(try clear hx0 hx1);obtain⟨hx0,hx1⟩:=HXY.out wq HBq.out;clear ho_ hb_ hg_ hat_ hy_ hown_ hol1))
         have hXb:=World.alloc_heap_new wq (.cells #[.int .i64 h.f0, .int .i64 h.f1, .int .i64 h.f2, .int .i64 h.f3, .slice A4 h.f4.length c4] 44 (0,0))
         have hal:Below wq.heap.size wq (wq.alloc (.cells #[.int .i64 h.f0, .int .i64 h.f1, .int .i64 h.f2, .int .i64 h.f3, .slice A4 h.f4.length c4] 44)):=below_alloc (Below.refl _ _) _
         have hBw:=HBq.out.trans (hal.mono HBq.out.size)
         have hRo:=Kd.R_below hRk hal
         have hR4w:=Kd.R_below hR4 hal
         have hcgw:=blk_alloc hcg (.cells #[.int .i64 h.f0, .int .i64 h.f1, .int .i64 h.f2, .int .i64 h.f3, .slice A4 h.f4.length c4] 44)
         have hsx:wq.heap.size<(wq.alloc (.cells #[.int .i64 h.f0, .int .i64 h.f1, .int .i64 h.f2, .int .i64 h.f3, .slice A4 h.f4.length c4] 44)).heap.size:=blk_lt hXb
         have hh4:h.f4.length≤1000000:=by
          have:=(HK.out.2.2.2 h (by simp)).2.2
          omega
         replace hXb:=blk_drew hXb
         replace hBw:=hBw.drew
         replace hRo:=Kd.R_drew hRo
         replace hR4w:=Kd.R_drew hR4w
         replace hcgw:=blk_drew hcgw
         have hRob:=Kd.R_drew (Kd.R_below (Kd.R_mono (Kd.R_bound hRk) (ok':=fun k_=>k_<wq.heap.size) (fun k_ hk_=>hk_.2.2.1)) hal)
         have hgoX:go<wq.heap.size:=Kd.R_lt hRk go (by simp [Value.ownBlock])
         clear hal hRk hR4 hl0 hl1 hl2 hl3 hl4 hx0 hx1
         obtain⟨W,hWe⟩: ∃W,W=(wq.alloc (.cells #[.int .i64 h.f0, .int .i64 h.f1, .int .i64 h.f2, .int .i64 h.f3, .slice A4 h.f4.length c4] 44)).drew:=⟨_,rfl⟩
         rw [← hWe] at hXb hBw hRo hR4w hcgw hRob
         have hsW:wq.heap.size<W.heap.size:=by rw [hWe];exact hsx
         have hWb:w.heap.size≤W.heap.size:=Nat.le_trans HB2.out.size hBw.size
         have hSk: ∀Y:World,Below W.heap.size W Y→Y.cell? ⟨wq.heap.size,4,none⟩=some (.slice A4 h.f4.length c4)∧Y.cell? ⟨gl,i*2,none⟩=some (.int .i64 x.f0)∧Y.cell? ⟨gl,i*2+1,none⟩=some (.slice A1 x.f1.length c1):=fun Y hY=>⟨(hY.cell hsW).trans ((blk_cell hXb 4).trans rfl),HXY.out Y (hBw.trans (hY.mono hBw.size))⟩
         have hCk: ∀Y:World,Below W.heap.size W Y→ReadsRow (k47.M Y w.heap.size (fun k_=>k_<W.heap.size)) 2 Y A4 h.f4.length h.f4:=fun Y hY=>by
          have h1:=Kd.R_below (Kd.R_mono (Kd.R_bound hR4w) (ok':=fun k_=>k_<W.heap.size) (fun k_ hk_=>hk_.2.2.1)) hY
          obtain⟨A_,c_,e_,_,hr_⟩:=OwnRow.reads h1.2
          injection e_ with e_ _ _
          subst e_
          exact ReadsRow.imp_ hr_ (Below.refl _ _) (fun _ _ hp=>k47.M_mono (fun _ hk=>hk.1) hp)
         have hXW:=Aside0.mk hXb
         have HV1W:=Kd.R_lower (Kd.R_below HV1.out hBw) HB12.out
         have hS0:=hSk W (Below.refl _ _)
         clear hXb
         refine start_ (n:=12) (S:=fun w'=>w'.cell? ⟨wq.heap.size,4,none⟩=some (.slice A4 h.f4.length c4)∧w'.cell? ⟨gl,i*2,none⟩=some (.int .i64 x.f0)∧w'.cell? ⟨gl,i*2+1,none⟩=some (.slice A1 x.f1.length c1)) (ds:= [11]) (Sq.bl 12 0) (by kernel_rfl) rfl (by rfl) (by rw [← hWe];exact hS0) (fun hS=>?_)
         rw [← hWe] at hS ⊢;clear hWe hS0 hsx
         refine Sq.pu (v:=?_) (a':=?_) 1 89 (Sq.bl 12 2) (by kernel_rfl) rfl rfl (fun _ _ _ h=>h) (by rfl) ?_ ?_ ?_;rotate_left;(· intro w';go_simp;with_reducible rfl);rotate_left;(· simp only [Act.put,zp1,zp2,zp3,zp4,zp5];rfl)
         refine Sq.pu (v:=?_) (a':=?_) 4 92 (Sq.bl 12 18) (by kernel_rfl) rfl rfl (fun _ _ _ h=>h) (by rfl) ?_ ?_ ?_;rotate_left;(· intro w';go_simp;with_reducible rfl);rotate_left;(· simp only [Act.put,zp1,zp2,zp3,zp4,zp5];rfl)
         refine Sq.pu (v:=?_) (a':=?_) 5 93 (Sq.bl 12 50) (by kernel_rfl) rfl rfl (fun _ _ _ h=>h) (by rfl) ?_ ?_ ?_;rotate_left;(· intro w';go_simp;with_reducible rfl);rotate_left;(· simp only [Act.put,zp1,zp2,zp3,zp4,zp5];rfl)
         refine Sq.pu (v:=?_) (a':=?_) 6 94 (Sq.bl 12 114) (by kernel_rfl) rfl rfl (fun _ _ _ h=>h) (by rfl) ?_ ?_ ?_;rotate_left;(· intro w';go_simp;with_reducible rfl);rotate_left;(· simp only [Act.put,zp1,zp2,zp3,zp4,zp5];rfl)
         refine take_ (i:=2) (N:=some 90) (v:=?_) (a':=?_) (Sq.bl 12 118) rfl rfl (by kernel_rfl) (fun _ _ _ h=>h) (Or.inl ⟨by rfl,?_⟩) hS ?_ ?_;rotate_left;(· rintro w' ⟨s0,s1,s2⟩;go_simp;with_reducible rfl);rotate_left;(· simp only [Act.put,zp1,zp2,zp3,zp4,zp5];rfl)
         refine take_ (i:=7) (N:=some 95) (v:=?_) (a':=?_) (Sq.bl 12 246) rfl rfl (by kernel_rfl) (fun _ _ _ h=>h) (Or.inl ⟨by rfl,?_⟩) hS ?_ ?_;rotate_left;(· rintro w' ⟨s0,s1,s2⟩;go_simp;with_reducible rfl);rotate_left;(· simp only [Act.put,zp1,zp2,zp3,zp4,zp5];rfl)
         refine join_ 3 (Sq.bl 12 511) (fun s:Value×Value×Value=> [(88,s.1),(91,s.2.1),(96,s.2.2)]) (fun s X=>Below W.heap.size W X∧Kd.R k47 47 X w.heap.size (fun _=>True) s.2.1 h.f4∧ ∃g,s.2.2= .slice (some ⟨g,0,none⟩) 1 1∧X.heap[g]? =some (.cells #[.int .i64 x.f0, .slice A1 x.f1.length c1] 47 (0,0))∧some g≠s.2.1.ownBlock∧W.heap.size≤g∧ ∀k_,s.2.1.ownBlock=some k_→W.heap.size≤k_) ?tail (fun hcont=> ?ord)
         case ord=>
          refine two_ (i:=0) (j:=8) (Ni:=some 88) (Nj:=some 96) (Sq.bl 12 247) (Sq.bl 12 502) rfl rfl rfl rfl (by kernel_rfl) (by decide) (by decide) (fun K hK=>?_) (fun K hK=>?_)
          ·skip
           refine value_ (w1:=?_) (v:=?_) (by rfl) rfl ?_ ?_
           rotate_left 2
           ·go_simp
            constructor
            ·rfl
            ·rfl
           have hB0:=(Below.refl W.heap.size W).alloc (Below.refl W.heap.size W).size (.cells #[] 47)
           have hq0:=World.alloc_heap_new W (.cells #[] 47)
           have hr0:Kd.R k47 47 (W.alloc (.cells #[] 47)) (w.heap.size) (fun _=>True) (.slice (some ⟨W.heap.size,0,none⟩) 0 0) []:=Rd.empty k47 _ _ _ _ _ hq0 (Nat.le_trans hWb (Below.refl W.heap.size W).size) trivial (by decide)
           refine hK.out _ _ (hSk _ hB0) (fun hS=>?_)
           refine norm_ (a':=?_) ?_ ?_
           rotate_left
           ·show Act.put _ (some 88) _=_
            simp only [Act.put,zp1,zp2,zp3,zp4,zp5]
            rfl
           refine two_ (i:=3) (j:=8) (Ni:=some 91) (Nj:=some 96) (Sq.bl 12 255) (Sq.bl 12 503) rfl rfl rfl rfl (by kernel_rfl) (by decide) (by decide) (fun K hK=>?_) (fun K hK=>?_)
           ·skip
            refine Kd.R_append_rows_step k47 (w0:=W) (w.heap.size) (by rfl) (.tmp 88) (.tmp 90) 22 47 (.agg #[(.int .i64 0),(.slice none 0 0)]) 32 rfl Try.underlying22 info47 rfl (by decide) (by omega) (.slice (some ⟨W.heap.size,0,none⟩) 0 0) [] h.f4 _ _ _ (fun _=>True) (fun k_=>k_<W.heap.size) rfl rfl hr0 (hCk _ hB0) (fun _ _ h=>h) (fun k_ hk_=>⟨trivial,fun e_=>by simp [Value.ownBlock] at e_;omega⟩) (fun _ _=>trivial) (hB0.mono hWb) (Nat.le_trans hWb hB0.size) ?aL ?_
            (case aL=>simp only [List.length_nil];omega)
            intro v1 w1 hr1 hB1_ hg1 hat1
            have hB1:=Rd.grown_new hB0 hg1 (by simp [Value.ownBlock])
            have hn1:=Rd.own_new hat1 hB0.size (by simp [Value.ownBlock])
            clear hB1_
            refine hK.out _ _ (hSk _ hB1) (fun hS=>?_)
            refine norm_ (a':=?_) ?_ ?_
            rotate_left
            ·show Act.put _ (some 91) _=_
             simp only [Act.put,zp1,zp2,zp3,zp4,zp5]
             rfl
            refine one_ (i:=8) (N:=some 96) (Sq.bl 12 511) rfl rfl (by kernel_rfl) (by decide) (fun K hK=>?_)
            refine value_ (w1:=?_) (v:=?_) (by rfl) rfl ?_ ?_
            rotate_left 2
            ·go_simp
             constructor
             ·rfl
             ·rfl
            have hB2:=hB1.alloc hB1.size (.cells #[.int .i64 x.f0, .slice A1 x.f1.length c1] 47)
            have hl2:=World.alloc_heap_new w1 (.cells #[.int .i64 x.f0, .slice A1 x.f1.length c1] 47)
            have hr2:=Kd.R_alloc hr1 (.cells #[.int .i64 x.f0, .slice A1 x.f1.length c1] 47)
            refine hK.out _ _ (hSk _ hB2) (fun hS=>?_)
            refine norm_ (a':=?_) ?_ ?_
            rotate_left
            ·show Act.put _ (some 96) _=_
             simp only [Act.put,zp1,zp2,zp3,zp4,zp5]
             rfl
            exact hcont (.slice (some ⟨W.heap.size,0,none⟩) 0 0,v1, .slice (some ⟨w1.heap.size,0,none⟩) 1 1) _ ⟨hB2,hr2,_,rfl,hl2,(fun e_=>by have h_:=Kd.R_lt hr1 _ e_.symm;omega),hB1.size,hn1⟩
           ·skip
            refine value_ (w1:=?_) (v:=?_) (by rfl) rfl ?_ ?_
            rotate_left 2
            ·go_simp
             constructor
             ·rfl
             ·rfl
            have hB2:=hB0.alloc hB0.size (.cells #[.int .i64 x.f0, .slice A1 x.f1.length c1] 47)
            have hl2:=World.alloc_heap_new (W.alloc (.cells #[] 47)) (.cells #[.int .i64 x.f0, .slice A1 x.f1.length c1] 47)
            simp only [World.size_alloc] at hl2
            have hr02:=Kd.R_alloc hr0 (.cells #[.int .i64 x.f0, .slice A1 x.f1.length c1] 47)
            refine hK.out _ _ (hSk _ hB2) (fun hS=>?_)
            refine norm_ (a':=?_) ?_ ?_
            rotate_left
            ·show Act.put _ (some 96) _=_
             simp only [Act.put,zp1,zp2,zp3,zp4,zp5]
             rfl
            refine one_ (i:=3) (N:=some 91) (Sq.bl 12 511) rfl rfl (by kernel_rfl) (by decide) (fun K hK=>?_)
            refine Kd.R_append_rows_step k47 (w0:=W) (w.heap.size) (by rfl) (.tmp 88) (.tmp 90) 22 47 (.agg #[(.int .i64 0),(.slice none 0 0)]) 32 rfl Try.underlying22 info47 rfl (by decide) (by omega) (.slice (some ⟨W.heap.size,0,none⟩) 0 0) [] h.f4 _ _ _ (fun _=>True) (fun k_=>k_<W.heap.size) rfl rfl hr02 (hCk _ hB2) (fun _ _ h=>h) (fun k_ hk_=>⟨trivial,fun e_=>by simp [Value.ownBlock] at e_;omega⟩) (fun _ _=>trivial) (hB2.mono hWb) (Nat.le_trans hWb hB2.size) ?aL ?_
            (case aL=>simp only [List.length_nil];omega)
            intro v1 w1 hr1 hB1_ hg1 hat1
            have hB1:=Rd.grown_new hB2 hg1 (by simp [Value.ownBlock])
            have hn1:=Rd.own_new hat1 hB2.size (by simp [Value.ownBlock])
            clear hB1_
            have hl1:=(hg1.block _ (blk_lt hl2) (by simp [Value.ownBlock])).trans hl2
            refine hK.out _ _ (hSk _ hB1) (fun hS=>?_)
            refine norm_ (a':=?_) ?_ ?_
            rotate_left
            ·show Act.put _ (some 91) _=_
             simp only [Act.put,zp1,zp2,zp3,zp4,zp5]
             rfl
            exact hcont (.slice (some ⟨W.heap.size,0,none⟩) 0 0,v1, .slice (some ⟨W.heap.size+1,0,none⟩) 1 1) _ ⟨hB1,hr1,_,rfl,hl1,Rd.lit_ne hr0 hr1 hat1 hl2 (by simp),by simp,hn1⟩
          ·skip
           refine value_ (w1:=?_) (v:=?_) (by rfl) rfl ?_ ?_
           rotate_left 2
           ·go_simp
            constructor
            ·rfl
            ·rfl
           have hB2:=(Below.refl W.heap.size W).alloc (Below.refl W.heap.size W).size (.cells #[.int .i64 x.f0, .slice A1 x.f1.length c1] 47)
           have hl2:=World.alloc_heap_new W (.cells #[.int .i64 x.f0, .slice A1 x.f1.length c1] 47)
           refine hK.out _ _ (hSk _ hB2) (fun hS=>?_)
           refine norm_ (a':=?_) ?_ ?_
           rotate_left
           ·show Act.put _ (some 96) _=_
            simp only [Act.put,zp1,zp2,zp3,zp4,zp5]
            rfl
           refine one_ (i:=0) (N:=some 88) (Sq.bl 12 503) rfl rfl (by kernel_rfl) (by decide) (fun K hK=>?_)
           refine value_ (w1:=?_) (v:=?_) (by rfl) rfl ?_ ?_
           rotate_left 2
           ·go_simp
            constructor
            ·rfl
            ·rfl
           have hB0:=hB2.alloc hB2.size (.cells #[] 47)
           have hq0:=World.alloc_heap_new (W.alloc (.cells #[.int .i64 x.f0, .slice A1 x.f1.length c1] 47)) (.cells #[] 47)
           have hr0:Kd.R k47 47 ((W.alloc (.cells #[.int .i64 x.f0, .slice A1 x.f1.length c1] 47)).alloc (.cells #[] 47)) (w.heap.size) (fun _=>True) (.slice (some ⟨(W.alloc (.cells #[.int .i64 x.f0, .slice A1 x.f1.length c1] 47)).heap.size,0,none⟩) 0 0) []:=Rd.empty k47 _ _ _ _ _ hq0 (Nat.le_trans hWb hB2.size) trivial (by decide)
           simp only [World.size_alloc] at hr0 hq0
           have hl0:=blk_alloc hl2 (.cells #[] 47)
           refine hK.out _ _ (hSk _ hB0) (fun hS=>?_)
           refine norm_ (a':=?_) ?_ ?_
           rotate_left
           ·show Act.put _ (some 88) _=_
            simp only [Act.put,zp1,zp2,zp3,zp4,zp5]
            rfl
           refine one_ (i:=3) (N:=some 91) (Sq.bl 12 511) rfl rfl (by kernel_rfl) (by decide) (fun K hK=>?_)
           refine Kd.R_append_rows_step k47 (w0:=W) (w.heap.size) (by rfl) (.tmp 88) (.tmp 90) 22 47 (.agg #[(.int .i64 0),(.slice none 0 0)]) 32 rfl Try.underlying22 info47 rfl (by decide) (by omega) (.slice (some ⟨W.heap.size+1,0,none⟩) 0 0) [] h.f4 _ _ _ (fun _=>True) (fun k_=>k_<W.heap.size) rfl rfl hr0 (hCk _ hB0) (fun _ _ h=>h) (fun k_ hk_=>⟨trivial,fun e_=>by simp [Value.ownBlock] at e_;omega⟩) (fun _ _=>trivial) (hB0.mono hWb) (Nat.le_trans hWb hB0.size) ?aL ?_
           (case aL=>simp only [List.length_nil];omega)
           intro v1 w1 hr1 hB1_ hg1 hat1
           have hB1:=Rd.grown_new hB0 hg1 (by simp [Value.ownBlock])
           have hn1:=Rd.own_new hat1 hB0.size (by simp [Value.ownBlock])
           clear hB1_
           have hl1:=(hg1.block _ (blk_lt hl0) (by simp [Value.ownBlock])).trans hl0
           refine hK.out _ _ (hSk _ hB1) (fun hS=>?_)
           refine norm_ (a':=?_) ?_ ?_
           rotate_left
           ·show Act.put _ (some 91) _=_
            simp only [Act.put,zp1,zp2,zp3,zp4,zp5]
            rfl
           exact hcont (.slice (some ⟨W.heap.size+1,0,none⟩) 0 0,v1, .slice (some ⟨W.heap.size,0,none⟩) 1 1) _ ⟨hB1,hr1,_,rfl,hl1,Rd.lit_ne2 hr1 hat1 (by simp [Value.ownBlock]) (by simp only [World.size_alloc];omega),Nat.le_refl _,hn1⟩
         case tail=>
          rintro ⟨s88_,s91_,s96_⟩ wt ⟨hBt,hRt,gt,he_,hlt_,hnt,hgt,hot⟩
          simp only at he_ hRt hnt hot
          subst he_
          have hS:=hSk _ hBt
          simp only [putAll,Act.put,List.setIfInBounds_toArray,List.set_cons_zero,List.set_cons_succ]
          refine one_ (i:=9) (N:=some 97) (Sq.bl 12 1023) rfl rfl (by kernel_rfl) (by decide) (fun K hK=>?_)
          refine Kd.R_append_rows_step k47 (Rr:=fun y c_=>y=x∧c_= [.int .i64 x.f0, .slice A1 x.f1.length c1]) (w0:=W) w.heap.size (by rfl) (.tmp 91) (.tmp 96) 22 47 (.agg #[(.int .i64 0),(.slice none 0 0)]) 32 rfl Try.underlying22 info47 rfl (by decide) (by omega) s91_ h.f4 [x] _ _ _ (fun _=>True) (fun k_=>k_<W.heap.size) rfl rfl hRt (Rd.lit_reads x 2 rfl hlt_ (by intro u hu;simp at hu;rcases hu with rfl|rfl<;>rfl)) (fun y c_ hy=>by rw [hy.1,hy.2];exact k47_mkM _ _ _ x (Kd.R_mono (Kd.R_bound HV1W) (fun k_ hk_=>hk_.2.2.1) |> fun h_=>Kd.R_below h_ hBt)) (fun k_ hk_=>⟨trivial,fun e_=>by have:=hot k_ e_.symm;omega⟩) (fun _ _=>trivial) (hBt.mono hWb) (Nat.le_trans hWb hBt.size) ?aL ?_
          (case aL=>omega)
          intro v97 w97 hr97 hB97_ hg97 hat97
          obtain⟨A97,c97,rfl⟩:=Kd.R_slice hr97
          have hB97:=Rd.grown_new hBt hg97 hot
          have hX97:=(hB97.block _ hsW).trans hXW.out
          have hf97:=blk_frozen hX97 4
          refine hK.out _ _ (hSk _ hB97) (fun hS=>?_)
          clear hK K
          refine norm_ (a':=?_) ?_ ?_
          rotate_left
          ·show Act.put _ (some 97) _=_
           simp only [Act.put,zp1,zp2,zp3,zp4,zp5]
           rfl
          refine Sq.pu (v:=?_) (a':=?_) 10 98 (Sq.bl 12 2047) (by kernel_rfl) rfl rfl (fun _ _ _ h=>h) (by rfl) ?_ ?_ ?_;rotate_left;(· intro w';go_simp;with_reducible rfl);rotate_left;(· simp only [Act.put,zp1,zp2,zp3,zp4,zp5];rfl)
          refine last_ (i:=11) (N:=none) (Sq.bl 12 4095) rfl rfl (by kernel_rfl) (by decide) (fun K hK=>?_)
          refine skip_ (w1:=?_) (by rfl) rfl ?_ ?_
          rotate_left
          ·go_simp
           rfl
          refine hK.out _ _ ?_
          clear hK K
          refine done_ (by kernel_rfl) ?_
          have hb5:(w97.setCell ⟨wq.heap.size,4,none⟩ (.slice A97 (h.f4++ [x]).length c97)).heap[wq.heap.size]? =some (.cells #[.int .i64 h.f0, .int .i64 h.f1, .int .i64 h.f2, .int .i64 h.f3, .slice A97 (h.f4++ [x]).length c97] 44 (0,0)):=(blk_set hX97 4 _).trans rfl
          have hcg97:=(hB97.block _ (Nat.lt_trans hgoX hsW)).trans hcgw
          have hR5:=Kd.R_far (p:=⟨wq.heap.size,4,none⟩) (Kd.R_below hRob hB97) (fun k_ hk_=>by show k_≠wq.heap.size;omega) (.slice A97 (h.f4++ [x]).length c97)
          have hv5:=Kd.R_set (Kd.R_types hr97 hcg97 (by decide)) hX97 (by decide) 4 (.slice A97 (h.f4++ [x]).length c97)
          have hBX:Below w2.heap.size w2 (w97.setCell ⟨wq.heap.size,4,none⟩ (.slice A97 (h.f4++ [x]).length c97)):=(hBw.trans (hB97.mono hBw.size)).setCell HBq.out.size _
          have e97:(h.f4++ [x]).length=h.f4.length+1:=by simp
          rw [e97] at hb5 hR5 hv5 hBX
          clear hS hf97 hX97 hr97 hB97 hB97_ hg97 hat97 hRt hBt hlt_ hnt hgt hot hSk hCk hXW HV1W hcgw hcg97 hRo hR4w hRob
          generalize w97.setCell ⟨wq.heap.size,4,none⟩ (.slice A97 (h.f4.length+1) c97)=W5 at hb5 hR5 hv5 hBX ⊢
          have hy0:=blk_cell hb5 0
          have hy1:=blk_cell hb5 1
          have hy2:=blk_cell hb5 2
          have hy3:=blk_cell hb5 3
          have hy4:=blk_cell hb5 4
          have hyf1:=blk_frozen hb5 1
          have hyf3:=blk_frozen hb5 3
          have HB5:=Aside0.mk hb5
          have HR5:=Aside0.mk hR5
          have HV5:=Aside0.mk hv5
          have HBX:=Aside0.mk hBX
          clear hb5 hR5 hv5 hBX
          obtain⟨⟨hf01,hf02⟩,⟨hf21,hf22⟩,_⟩:=HK.out.2.2.2 h (by simp)
          have HR7:=Aside0.mk (Kd.R_mono (Kd.R_far (p:=⟨wq.heap.size,3,none⟩) (Kd.R_far (p:=⟨wq.heap.size,1,none⟩) HR5.out (fun k_ hk_=>by show k_≠wq.heap.size;omega) (.int .i64 (((a:Int)+1)-h.f0))) (fun k_ hk_=>by show k_≠wq.heap.size;omega) (.int .i64 ((b:Int)-h.f2))) (fun _ _=>trivial))
          have HV7:=Aside0.mk (Kd.R_mono (Kd.R_set (Kd.R_set HV5.out HB5.out (by decide) 1 (.int .i64 (((a:Int)+1)-h.f0))) (blk_set HB5.out 1 _) (by decide) 3 (.int .i64 ((b:Int)-h.f2))) (fun _ hk=>hk.2))
          have HB7:=Aside0.mk ((HBX.out.setCell (p:=⟨wq.heap.size,1,none⟩) HBq.out.size (.int .i64 (((a:Int)+1)-h.f0))).setCell (p:=⟨wq.heap.size,3,none⟩) HBq.out.size (.int .i64 ((b:Int)-h.f2)))
          go_wp2_with(refine jalousieref09_Build.store5 (w0:=w) w.heap.size ⟨h.f0,(((a:Int)+1)-h.f0),h.f2,((b:Int)-h.f2),h.f4++ [x]⟩ rfl rfl rfl (by rfl) (by rfl) HR7.out HO.out HV7.out (HB2.out.trans (HB7.out.mono HB2.out.size)) ?_;intro w8 hr8 hb8 hg8)
          go_roundw
          case rel=>
           obtain rfl:=HQ1.out
           refine⟨i+1,_,by omega,by rfl,by rfl,rfl,by rfl,Hlp.out,hr8,?_,?_,Rd.grown_new HB7.out hg8 (fun k_ e_=>HOWNq.out k_ e_)⟩
           ·exact HOWNq.out
           ·have hk0:=HK.out
            have hk1:=hk0.1
            have hk4:=hk0.2.2.2
            have hhl:=(hk4 h (by simp)).2.2
            refine⟨?_,?_,?_,?_⟩
            ·simp only [List.length_append,List.length_singleton] at hk1 ⊢
             omega
            ·simp only
             omega
            ·simp only
             omega
            ·intro y hy
             simp only [List.mem_append,List.mem_singleton] at hy
             rcases hy with hy|rfl
             ·exact⟨(hk4 y (by simp [hy])).1,(hk4 y (by simp [hy])).2.1,Nat.le_succ_of_le (hk4 y (by simp [hy])).2.2⟩
             ·refine⟨⟨hf01,hf02⟩,⟨hf21,hf22⟩,?_⟩
              simp only [List.length_append,List.length_singleton]
              omega
          case measure=>
           simp only [intOf,Int.toNat_natCast]
           omega
       ·have h3:x.f0=3:=h23.resolve_left h2
        have hf2:(x.f0 != 2)=true:=by simp [h3]
        have hf3:(x.f0 != 3)=false:=by simp [h3]
        rw [if_pos h3,if_neg h2] at hq1
        cases on with
        | true=>
         rw [if_pos rfl] at hq1
         split at hq1
         ·cases hq1
         rename_i h tr hrev
         have HQ1:=Aside0.mk (Option.some.inj hq1)
         have ho:out=tr.reverse++ [h]:=by
          have:=congrArg List.reverse hrev
          simpa using this
         generalize tr.reverse=tt at ho HQ1
         obtain⟨m,hm⟩: ∃m,m=tt.length:=⟨_,rfl⟩;have hol:out.length=m+1:=(by rw [ho,hm];simp);obtain⟨Ao,co,ev⟩:=Kd.R_slice HR.out;rw [hol] at ev;subst ev;obtain⟨go,rfl⟩:=jalousieref09_Build.addr HR.out;have HO:=Aside0.mk ho;have HM:=Aside0.mk hm;have HOL:=Aside0.mk hol;have hm9:m≤1000000:=(by omega);have HK:Aside0 (tt.length≤i∧a≤i∧b≤i∧ ∀y∈tt++ [h],(0≤y.f0∧y.f0≤1000000)∧(0≤y.f2∧y.f2≤1000000)∧y.f4.length≤i):=⟨by have hk1:=Hok.out.1;have hk4:=Hok.out.2.2.2;simp only at hk1 hk4;rw [ho] at hk1 hk4;exact⟨by simp only [List.length_append,List.length_singleton] at hk1;omega,hob2,hob3,hk4⟩⟩;clear hq1 hrev h1 h2 h23 h3 ho hm hol;have hRk:=HR.out;obtain⟨_,A4,c4,hl0,hl1,hl2,hl3,hl4,hlc4,hR4,hfz,cg,hcg⟩:=jalousieref09_Build.last hRk HO.out
         go_wp2
         have hXb:=World.alloc_heap_new wr (.cells #[.int .i64 h.f0, .int .i64 h.f1, .int .i64 h.f2, .int .i64 h.f3, .slice A4 h.f4.length c4] 44 (0,0))
         have hal:Below wr.heap.size wr (wr.alloc (.cells #[.int .i64 h.f0, .int .i64 h.f1, .int .i64 h.f2, .int .i64 h.f3, .slice A4 h.f4.length c4] 44)):=below_alloc (Below.refl _ _) _
         have hBw:=HB.out.trans (hal.mono HB.out.size)
         have hRo:=Kd.R_below hRk hal
         have hR4w:=Kd.R_below hR4 hal
         have hcgw:=blk_alloc hcg (.cells #[.int .i64 h.f0, .int .i64 h.f1, .int .i64 h.f2, .int .i64 h.f3, .slice A4 h.f4.length c4] 44)
         have hsx:wr.heap.size<(wr.alloc (.cells #[.int .i64 h.f0, .int .i64 h.f1, .int .i64 h.f2, .int .i64 h.f3, .slice A4 h.f4.length c4] 44)).heap.size:=blk_lt hXb
         have hh4:h.f4.length≤1000000:=by
          have:=(HK.out.2.2.2 h (by simp)).2.2
          omega
         replace hXb:=blk_drew hXb
         replace hBw:=hBw.drew
         replace hRo:=Kd.R_drew hRo
         replace hR4w:=Kd.R_drew hR4w
         replace hcgw:=blk_drew hcgw
         have hRob:=Kd.R_drew (Kd.R_below (Kd.R_mono (Kd.R_bound hRk) (ok':=fun k_=>k_<wr.heap.size) (fun k_ hk_=>hk_.2.2.1)) hal)
         have hgoX:go<wr.heap.size:=Kd.R_lt hRk go (by simp [Value.ownBlock])
         clear hal hRk hR4 hl0 hl1 hl2 hl3 hl4 hx0 hx1
         obtain⟨W,hWe⟩: ∃W,W=(wr.alloc (.cells #[.int .i64 h.f0, .int .i64 h.f1, .int .i64 h.f2, .int .i64 h.f3, .slice A4 h.f4.length c4] 44)).drew:=⟨_,rfl⟩
         rw [← hWe] at hXb hBw hRo hR4w hcgw hRob
         have hsW:wr.heap.size<W.heap.size:=by rw [hWe];exact hsx
         have hWb:w.heap.size≤W.heap.size:=Nat.le_trans HB2.out.size hBw.size
         have hSk: ∀Y:World,Below W.heap.size W Y→Y.cell? ⟨wr.heap.size,4,none⟩=some (.slice A4 h.f4.length c4)∧Y.cell? ⟨gl,i*2,none⟩=some (.int .i64 x.f0)∧Y.cell? ⟨gl,i*2+1,none⟩=some (.slice A1 x.f1.length c1):=fun Y hY=>⟨(hY.cell hsW).trans ((blk_cell hXb 4).trans rfl),HXY.out Y (hBw.trans (hY.mono hBw.size))⟩
         have hCk: ∀Y:World,Below W.heap.size W Y→ReadsRow (k47.M Y w.heap.size (fun k_=>k_<W.heap.size)) 2 Y A4 h.f4.length h.f4:=fun Y hY=>by
          have h1:=Kd.R_below (Kd.R_mono (Kd.R_bound hR4w) (ok':=fun k_=>k_<W.heap.size) (fun k_ hk_=>hk_.2.2.1)) hY
          obtain⟨A_,c_,e_,_,hr_⟩:=OwnRow.reads h1.2
          injection e_ with e_ _ _
          subst e_
          exact ReadsRow.imp_ hr_ (Below.refl _ _) (fun _ _ hp=>k47.M_mono (fun _ hk=>hk.1) hp)
         have hXW:=Aside0.mk hXb
         have HV1W:=Kd.R_lower (Kd.R_below HV1.out hBw) HB12.out
         have hS0:=hSk W (Below.refl _ _)
         clear hXb
         refine start_ (n:=12) (S:=fun w'=>w'.cell? ⟨wr.heap.size,4,none⟩=some (.slice A4 h.f4.length c4)∧w'.cell? ⟨gl,i*2,none⟩=some (.int .i64 x.f0)∧w'.cell? ⟨gl,i*2+1,none⟩=some (.slice A1 x.f1.length c1)) (ds:= [11]) (Sq.bl 12 0) (by kernel_rfl) rfl (by rfl) (by rw [← hWe];exact hS0) (fun hS=>?_)
         rw [← hWe] at hS ⊢;clear hWe hS0 hsx
         refine Sq.pu (v:=?_) (a':=?_) 1 89 (Sq.bl 12 2) (by kernel_rfl) rfl rfl (fun _ _ _ h=>h) (by rfl) ?_ ?_ ?_;rotate_left;(· intro w';go_simp;with_reducible rfl);rotate_left;(· simp only [Act.put,zp1,zp2,zp3,zp4,zp5];rfl)
         refine Sq.pu (v:=?_) (a':=?_) 4 92 (Sq.bl 12 18) (by kernel_rfl) rfl rfl (fun _ _ _ h=>h) (by rfl) ?_ ?_ ?_;rotate_left;(· intro w';go_simp;with_reducible rfl);rotate_left;(· simp only [Act.put,zp1,zp2,zp3,zp4,zp5];rfl)
         refine Sq.pu (v:=?_) (a':=?_) 5 93 (Sq.bl 12 50) (by kernel_rfl) rfl rfl (fun _ _ _ h=>h) (by rfl) ?_ ?_ ?_;rotate_left;(· intro w';go_simp;with_reducible rfl);rotate_left;(· simp only [Act.put,zp1,zp2,zp3,zp4,zp5];rfl)
         refine Sq.pu (v:=?_) (a':=?_) 6 94 (Sq.bl 12 114) (by kernel_rfl) rfl rfl (fun _ _ _ h=>h) (by rfl) ?_ ?_ ?_;rotate_left;(· intro w';go_simp;with_reducible rfl);rotate_left;(· simp only [Act.put,zp1,zp2,zp3,zp4,zp5];rfl)
         refine take_ (i:=2) (N:=some 90) (v:=?_) (a':=?_) (Sq.bl 12 118) rfl rfl (by kernel_rfl) (fun _ _ _ h=>h) (Or.inl ⟨by rfl,?_⟩) hS ?_ ?_;rotate_left;(· rintro w' ⟨s0,s1,s2⟩;go_simp;with_reducible rfl);rotate_left;(· simp only [Act.put,zp1,zp2,zp3,zp4,zp5];rfl)
         refine take_ (i:=7) (N:=some 95) (v:=?_) (a':=?_) (Sq.bl 12 246) rfl rfl (by kernel_rfl) (fun _ _ _ h=>h) (Or.inl ⟨by rfl,?_⟩) hS ?_ ?_;rotate_left;(· rintro w' ⟨s0,s1,s2⟩;go_simp;with_reducible rfl);rotate_left;(· simp only [Act.put,zp1,zp2,zp3,zp4,zp5];rfl)
         refine join_ 3 (Sq.bl 12 511) (fun s:Value×Value×Value=> [(88,s.1),(91,s.2.1),(96,s.2.2)]) (fun s X=>Below W.heap.size W X∧Kd.R k47 47 X w.heap.size (fun _=>True) s.2.1 h.f4∧ ∃g,s.2.2= .slice (some ⟨g,0,none⟩) 1 1∧X.heap[g]? =some (.cells #[.int .i64 x.f0, .slice A1 x.f1.length c1] 47 (0,0))∧some g≠s.2.1.ownBlock∧W.heap.size≤g∧ ∀k_,s.2.1.ownBlock=some k_→W.heap.size≤k_) ?tail (fun hcont=> ?ord)
         case ord=>
          refine two_ (i:=0) (j:=8) (Ni:=some 88) (Nj:=some 96) (Sq.bl 12 247) (Sq.bl 12 502) rfl rfl rfl rfl (by kernel_rfl) (by decide) (by decide) (fun K hK=>?_) (fun K hK=>?_)
          ·skip
           refine value_ (w1:=?_) (v:=?_) (by rfl) rfl ?_ ?_
           rotate_left 2
           ·go_simp
            constructor
            ·rfl
            ·rfl
           have hB0:=(Below.refl W.heap.size W).alloc (Below.refl W.heap.size W).size (.cells #[] 47)
           have hq0:=World.alloc_heap_new W (.cells #[] 47)
           have hr0:Kd.R k47 47 (W.alloc (.cells #[] 47)) (w.heap.size) (fun _=>True) (.slice (some ⟨W.heap.size,0,none⟩) 0 0) []:=Rd.empty k47 _ _ _ _ _ hq0 (Nat.le_trans hWb (Below.refl W.heap.size W).size) trivial (by decide)
           refine hK.out _ _ (hSk _ hB0) (fun hS=>?_)
           refine norm_ (a':=?_) ?_ ?_
           rotate_left
           ·show Act.put _ (some 88) _=_
            simp only [Act.put,zp1,zp2,zp3,zp4,zp5]
            rfl
           refine two_ (i:=3) (j:=8) (Ni:=some 91) (Nj:=some 96) (Sq.bl 12 255) (Sq.bl 12 503) rfl rfl rfl rfl (by kernel_rfl) (by decide) (by decide) (fun K hK=>?_) (fun K hK=>?_)
           ·skip
            refine Kd.R_append_rows_step k47 (w0:=W) (w.heap.size) (by rfl) (.tmp 88) (.tmp 90) 22 47 (.agg #[(.int .i64 0),(.slice none 0 0)]) 32 rfl Try.underlying22 info47 rfl (by decide) (by omega) (.slice (some ⟨W.heap.size,0,none⟩) 0 0) [] h.f4 _ _ _ (fun _=>True) (fun k_=>k_<W.heap.size) rfl rfl hr0 (hCk _ hB0) (fun _ _ h=>h) (fun k_ hk_=>⟨trivial,fun e_=>by simp [Value.ownBlock] at e_;omega⟩) (fun _ _=>trivial) (hB0.mono hWb) (Nat.le_trans hWb hB0.size) ?aL ?_
            (case aL=>simp only [List.length_nil];omega)
            intro v1 w1 hr1 hB1_ hg1 hat1
            have hB1:=Rd.grown_new hB0 hg1 (by simp [Value.ownBlock])
            have hn1:=Rd.own_new hat1 hB0.size (by simp [Value.ownBlock])
            clear hB1_
            refine hK.out _ _ (hSk _ hB1) (fun hS=>?_)
            refine norm_ (a':=?_) ?_ ?_
            rotate_left
            ·show Act.put _ (some 91) _=_
             simp only [Act.put,zp1,zp2,zp3,zp4,zp5]
             rfl
            refine one_ (i:=8) (N:=some 96) (Sq.bl 12 511) rfl rfl (by kernel_rfl) (by decide) (fun K hK=>?_)
            refine value_ (w1:=?_) (v:=?_) (by rfl) rfl ?_ ?_
            rotate_left 2
            ·go_simp
             constructor
             ·rfl
             ·rfl
            have hB2:=hB1.alloc hB1.size (.cells #[.int .i64 x.f0, .slice A1 x.f1.length c1] 47)
            have hl2:=World.alloc_heap_new w1 (.cells #[.int .i64 x.f0, .slice A1 x.f1.length c1] 47)
            have hr2:=Kd.R_alloc hr1 (.cells #[.int .i64 x.f0, .slice A1 x.f1.length c1] 47)
            refine hK.out _ _ (hSk _ hB2) (fun hS=>?_)
            refine norm_ (a':=?_) ?_ ?_
            rotate_left
            ·show Act.put _ (some 96) _=_
             simp only [Act.put,zp1,zp2,zp3,zp4,zp5]
             rfl
            exact hcont (.slice (some ⟨W.heap.size,0,none⟩) 0 0,v1, .slice (some ⟨w1.heap.size,0,none⟩) 1 1) _ ⟨hB2,hr2,_,rfl,hl2,(fun e_=>by have h_:=Kd.R_lt hr1 _ e_.symm;omega),hB1.size,hn1⟩
           ·skip
            refine value_ (w1:=?_) (v:=?_) (by rfl) rfl ?_ ?_
            rotate_left 2
            ·go_simp
             constructor
             ·rfl
             ·rfl
            have hB2:=hB0.alloc hB0.size (.cells #[.int .i64 x.f0, .slice A1 x.f1.length c1] 47)
            have hl2:=World.alloc_heap_new (W.alloc (.cells #[] 47)) (.cells #[.int .i64 x.f0, .slice A1 x.f1.length c1] 47)
            simp only [World.size_alloc] at hl2
            have hr02:=Kd.R_alloc hr0 (.cells #[.int .i64 x.f0, .slice A1 x.f1.length c1] 47)
            refine hK.out _ _ (hSk _ hB2) (fun hS=>?_)
            refine norm_ (a':=?_) ?_ ?_
            rotate_left
            ·show Act.put _ (some 96) _=_
             simp only [Act.put,zp1,zp2,zp3,zp4,zp5]
             rfl
            refine one_ (i:=3) (N:=some 91) (Sq.bl 12 511) rfl rfl (by kernel_rfl) (by decide) (fun K hK=>?_)
            refine Kd.R_append_rows_step k47 (w0:=W) (w.heap.size) (by rfl) (.tmp 88) (.tmp 90) 22 47 (.agg #[(.int .i64 0),(.slice none 0 0)]) 32 rfl Try.underlying22 info47 rfl (by decide) (by omega) (.slice (some ⟨W.heap.size,0,none⟩) 0 0) [] h.f4 _ _ _ (fun _=>True) (fun k_=>k_<W.heap.size) rfl rfl hr02 (hCk _ hB2) (fun _ _ h=>h) (fun k_ hk_=>⟨trivial,fun e_=>by simp [Value.ownBlock] at e_;omega⟩) (fun _ _=>trivial) (hB2.mono hWb) (Nat.le_trans hWb hB2.size) ?aL ?_
            (case aL=>simp only [List.length_nil];omega)
            intro v1 w1 hr1 hB1_ hg1 hat1
            have hB1:=Rd.grown_new hB2 hg1 (by simp [Value.ownBlock])
            have hn1:=Rd.own_new hat1 hB2.size (by simp [Value.ownBlock])
            clear hB1_
            have hl1:=(hg1.block _ (blk_lt hl2) (by simp [Value.ownBlock])).trans hl2
            refine hK.out _ _ (hSk _ hB1) (fun hS=>?_)
            refine norm_ (a':=?_) ?_ ?_
            rotate_left
            ·show Act.put _ (some 91) _=_
             simp only [Act.put,zp1,zp2,zp3,zp4,zp5]
             rfl
            exact hcont (.slice (some ⟨W.heap.size,0,none⟩) 0 0,v1, .slice (some ⟨W.heap.size+1,0,none⟩) 1 1) _ ⟨hB1,hr1,_,rfl,hl1,Rd.lit_ne hr0 hr1 hat1 hl2 (by simp),by simp,hn1⟩
          ·skip
           refine value_ (w1:=?_) (v:=?_) (by rfl) rfl ?_ ?_
           rotate_left 2
           ·go_simp
            constructor
            ·rfl
            ·rfl
           have hB2:=(Below.refl W.heap.size W).alloc (Below.refl W.heap.size W).size (.cells #[.int .i64 x.f0, .slice A1 x.f1.length c1] 47)
           have hl2:=World.alloc_heap_new W (.cells #[.int .i64 x.f0, .slice A1 x.f1.length c1] 47)
           refine hK.out _ _ (hSk _ hB2) (fun hS=>?_)
           refine norm_ (a':=?_) ?_ ?_
           rotate_left
           ·show Act.put _ (some 96) _=_
            simp only [Act.put,zp1,zp2,zp3,zp4,zp5]
            rfl
           refine one_ (i:=0) (N:=some 88) (Sq.bl 12 503) rfl rfl (by kernel_rfl) (by decide) (fun K hK=>?_)
           refine value_ (w1:=?_) (v:=?_) (by rfl) rfl ?_ ?_
           rotate_left 2
           ·go_simp
            constructor
            ·rfl
            ·rfl
           have hB0:=hB2.alloc hB2.size (.cells #[] 47)
           have hq0:=World.alloc_heap_new (W.alloc (.cells #[.int .i64 x.f0, .slice A1 x.f1.length c1] 47)) (.cells #[] 47)
           have hr0:Kd.R k47 47 ((W.alloc (.cells #[.int .i64 x.f0, .slice A1 x.f1.length c1] 47)).alloc (.cells #[] 47)) (w.heap.size) (fun _=>True) (.slice (some ⟨(W.alloc (.cells #[.int .i64 x.f0, .slice A1 x.f1.length c1] 47)).heap.size,0,none⟩) 0 0) []:=Rd.empty k47 _ _ _ _ _ hq0 (Nat.le_trans hWb hB2.size) trivial (by decide)
           simp only [World.size_alloc] at hr0 hq0
           have hl0:=blk_alloc hl2 (.cells #[] 47)
           refine hK.out _ _ (hSk _ hB0) (fun hS=>?_)
           refine norm_ (a':=?_) ?_ ?_
           rotate_left
           ·show Act.put _ (some 88) _=_
            simp only [Act.put,zp1,zp2,zp3,zp4,zp5]
            rfl
           refine one_ (i:=3) (N:=some 91) (Sq.bl 12 511) rfl rfl (by kernel_rfl) (by decide) (fun K hK=>?_)
           refine Kd.R_append_rows_step k47 (w0:=W) (w.heap.size) (by rfl) (.tmp 88) (.tmp 90) 22 47 (.agg #[(.int .i64 0),(.slice none 0 0)]) 32 rfl Try.underlying22 info47 rfl (by decide) (by omega) (.slice (some ⟨W.heap.size+1,0,none⟩) 0 0) [] h.f4 _ _ _ (fun _=>True) (fun k_=>k_<W.heap.size) rfl rfl hr0 (hCk _ hB0) (fun _ _ h=>h) (fun k_ hk_=>⟨trivial,fun e_=>by simp [Value.ownBlock] at e_;omega⟩) (fun _ _=>trivial) (hB0.mono hWb) (Nat.le_trans hWb hB0.size) ?aL ?_
           (case aL=>simp only [List.length_nil];omega)
           intro v1 w1 hr1 hB1_ hg1 hat1
           have hB1:=Rd.grown_new hB0 hg1 (by simp [Value.ownBlock])
           have hn1:=Rd.own_new hat1 hB0.size (by simp [Value.ownBlock])
           clear hB1_
           have hl1:=(hg1.block _ (blk_lt hl0) (by simp [Value.ownBlock])).trans hl0
           refine hK.out _ _ (hSk _ hB1) (fun hS=>?_)
           refine norm_ (a':=?_) ?_ ?_
           rotate_left
           ·show Act.put _ (some 91) _=_
            simp only [Act.put,zp1,zp2,zp3,zp4,zp5]
            rfl
           exact hcont (.slice (some ⟨W.heap.size+1,0,none⟩) 0 0,v1, .slice (some ⟨W.heap.size,0,none⟩) 1 1) _ ⟨hB1,hr1,_,rfl,hl1,Rd.lit_ne2 hr1 hat1 (by simp [Value.ownBlock]) (by simp only [World.size_alloc];omega),Nat.le_refl _,hn1⟩
         case tail=>
          rintro ⟨s88_,s91_,s96_⟩ wt ⟨hBt,hRt,gt,he_,hlt_,hnt,hgt,hot⟩
          simp only at he_ hRt hnt hot
          subst he_
          have hS:=hSk _ hBt
          simp only [putAll,Act.put,List.setIfInBounds_toArray,List.set_cons_zero,List.set_cons_succ]
          refine one_ (i:=9) (N:=some 97) (Sq.bl 12 1023) rfl rfl (by kernel_rfl) (by decide) (fun K hK=>?_)
          refine Kd.R_append_rows_step k47 (Rr:=fun y c_=>y=x∧c_= [.int .i64 x.f0, .slice A1 x.f1.length c1]) (w0:=W) w.heap.size (by rfl) (.tmp 91) (.tmp 96) 22 47 (.agg #[(.int .i64 0),(.slice none 0 0)]) 32 rfl Try.underlying22 info47 rfl (by decide) (by omega) s91_ h.f4 [x] _ _ _ (fun _=>True) (fun k_=>k_<W.heap.size) rfl rfl hRt (Rd.lit_reads x 2 rfl hlt_ (by intro u hu;simp at hu;rcases hu with rfl|rfl<;>rfl)) (fun y c_ hy=>by rw [hy.1,hy.2];exact k47_mkM _ _ _ x (Kd.R_mono (Kd.R_bound HV1W) (fun k_ hk_=>hk_.2.2.1) |> fun h_=>Kd.R_below h_ hBt)) (fun k_ hk_=>⟨trivial,fun e_=>by have:=hot k_ e_.symm;omega⟩) (fun _ _=>trivial) (hBt.mono hWb) (Nat.le_trans hWb hBt.size) ?aL ?_
          (case aL=>omega)
          intro v97 w97 hr97 hB97_ hg97 hat97
          obtain⟨A97,c97,rfl⟩:=Kd.R_slice hr97
          have hB97:=Rd.grown_new hBt hg97 hot
          have hX97:=(hB97.block _ hsW).trans hXW.out
          have hf97:=blk_frozen hX97 4
          refine hK.out _ _ (hSk _ hB97) (fun hS=>?_)
          clear hK K
          refine norm_ (a':=?_) ?_ ?_
          rotate_left
          ·show Act.put _ (some 97) _=_
           simp only [Act.put,zp1,zp2,zp3,zp4,zp5]
           rfl
          refine Sq.pu (v:=?_) (a':=?_) 10 98 (Sq.bl 12 2047) (by kernel_rfl) rfl rfl (fun _ _ _ h=>h) (by rfl) ?_ ?_ ?_;rotate_left;(· intro w';go_simp;with_reducible rfl);rotate_left;(· simp only [Act.put,zp1,zp2,zp3,zp4,zp5];rfl)
          refine last_ (i:=11) (N:=none) (Sq.bl 12 4095) rfl rfl (by kernel_rfl) (by decide) (fun K hK=>?_)
          refine skip_ (w1:=?_) (by rfl) rfl ?_ ?_
          rotate_left
          ·go_simp
           rfl
          refine hK.out _ _ ?_
          clear hK K
          refine done_ (by kernel_rfl) ?_
          have hb5:(w97.setCell ⟨wr.heap.size,4,none⟩ (.slice A97 (h.f4++ [x]).length c97)).heap[wr.heap.size]? =some (.cells #[.int .i64 h.f0, .int .i64 h.f1, .int .i64 h.f2, .int .i64 h.f3, .slice A97 (h.f4++ [x]).length c97] 44 (0,0)):=(blk_set hX97 4 _).trans rfl
          have hcg97:=(hB97.block _ (Nat.lt_trans hgoX hsW)).trans hcgw
          have hR5:=Kd.R_far (p:=⟨wr.heap.size,4,none⟩) (Kd.R_below hRob hB97) (fun k_ hk_=>by show k_≠wr.heap.size;omega) (.slice A97 (h.f4++ [x]).length c97)
          have hv5:=Kd.R_set (Kd.R_types hr97 hcg97 (by decide)) hX97 (by decide) 4 (.slice A97 (h.f4++ [x]).length c97)
          have hBX:Below w2.heap.size w2 (w97.setCell ⟨wr.heap.size,4,none⟩ (.slice A97 (h.f4++ [x]).length c97)):=(hBw.trans (hB97.mono hBw.size)).setCell HB.out.size _
          have e97:(h.f4++ [x]).length=h.f4.length+1:=by simp
          rw [e97] at hb5 hR5 hv5 hBX
          clear hS hf97 hX97 hr97 hB97 hB97_ hg97 hat97 hRt hBt hlt_ hnt hgt hot hSk hCk hXW HV1W hcgw hcg97 hRo hR4w hRob
          generalize w97.setCell ⟨wr.heap.size,4,none⟩ (.slice A97 (h.f4.length+1) c97)=W5 at hb5 hR5 hv5 hBX ⊢
          have hy0:=blk_cell hb5 0
          have hy1:=blk_cell hb5 1
          have hy2:=blk_cell hb5 2
          have hy3:=blk_cell hb5 3
          have hy4:=blk_cell hb5 4
          have hyf1:=blk_frozen hb5 1
          have hyf3:=blk_frozen hb5 3
          have HB5:=Aside0.mk hb5
          have HR5:=Aside0.mk hR5
          have HV5:=Aside0.mk hv5
          have HBX:=Aside0.mk hBX
          clear hb5 hR5 hv5 hBX
          obtain⟨⟨hf01,hf02⟩,⟨hf21,hf22⟩,_⟩:=HK.out.2.2.2 h (by simp)
          have HR7:=Aside0.mk (Kd.R_mono (Kd.R_far (p:=⟨wr.heap.size,3,none⟩) (Kd.R_far (p:=⟨wr.heap.size,1,none⟩) HR5.out (fun k_ hk_=>by show k_≠wr.heap.size;omega) (.int .i64 ((a:Int)-h.f0))) (fun k_ hk_=>by show k_≠wr.heap.size;omega) (.int .i64 (((b:Int)+1)-h.f2))) (fun _ _=>trivial))
          have HV7:=Aside0.mk (Kd.R_mono (Kd.R_set (Kd.R_set HV5.out HB5.out (by decide) 1 (.int .i64 ((a:Int)-h.f0))) (blk_set HB5.out 1 _) (by decide) 3 (.int .i64 (((b:Int)+1)-h.f2))) (fun _ hk=>hk.2))
          have HB7:=Aside0.mk ((HBX.out.setCell (p:=⟨wr.heap.size,1,none⟩) HB.out.size (.int .i64 ((a:Int)-h.f0))).setCell (p:=⟨wr.heap.size,3,none⟩) HB.out.size (.int .i64 (((b:Int)+1)-h.f2)))
          go_wp2_with(refine jalousieref09_Build.store5 (w0:=w) w.heap.size ⟨h.f0,((a:Int)-h.f0),h.f2,(((b:Int)+1)-h.f2),h.f4++ [x]⟩ rfl rfl rfl (by rfl) (by rfl) HR7.out HO.out HV7.out (HB2.out.trans (HB7.out.mono HB2.out.size)) ?_;intro w8 hr8 hb8 hg8)
          go_roundw
          case rel=>
           obtain rfl:=HQ1.out
           refine⟨i+1,_,by omega,by rfl,by rfl,rfl,by rfl,Hlp.out,hr8,?_,?_,Rd.grown_new HB7.out hg8 (fun k_ e_=>Hown.out k_ e_)⟩
           ·exact Hown.out
           ·have hk0:=HK.out
            have hk1:=hk0.1
            have hk4:=hk0.2.2.2
            have hhl:=(hk4 h (by simp)).2.2
            refine⟨?_,?_,?_,?_⟩
            ·simp only [List.length_append,List.length_singleton] at hk1 ⊢
             omega
            ·simp only
             omega
            ·simp only
             omega
            ·intro y hy
             simp only [List.mem_append,List.mem_singleton] at hy
             rcases hy with hy|rfl
             ·exact⟨(hk4 y (by simp [hy])).1,(hk4 y (by simp [hy])).2.1,Nat.le_succ_of_le (hk4 y (by simp [hy])).2.2⟩
             ·refine⟨⟨hf01,hf02⟩,⟨hf21,hf22⟩,?_⟩
              simp only [List.length_append,List.length_singleton]
              omega
          case measure=>
           simp only [intOf,Int.toNat_natCast]
           omega
        | false=>
         rw [if_neg (by simp),List.reverse_append] at hq1
         obtain⟨h,hh⟩: ∃h:S44,h=⟨(a:Int),0,(b:Int),0,[]⟩:=⟨_,rfl⟩
         rw [← hh] at hq1
         simp only [List.reverse_singleton,List.singleton_append,List.reverse_reverse] at hq1
         have HQ1:=Aside0.mk (Option.some.inj hq1)
         have HH:=Aside0.mk hh
         obtain⟨oo,hoo⟩: ∃oo,oo=out++ [h]:=⟨_,rfl⟩
         have HO:=Aside0.mk hoo
         clear hoo
         have HK:Aside0 (out.length≤i∧a≤i∧b≤i∧ ∀y∈out++ [h],(0≤y.f0∧y.f0≤1000000)∧(0≤y.f2∧y.f2≤1000000)∧y.f4.length≤i):=⟨by
          refine⟨hob1,hob2,hob3,?_⟩
          intro y hy
          simp only [List.mem_append,List.mem_singleton] at hy
          rcases hy with hy|rfl
          ·exact Hok.out.2.2.2 y hy
          ·rw [HH.out]
           refine⟨⟨?_,?_⟩,⟨?_,?_⟩,?_⟩<;>simp only [List.length_nil]<;>omega⟩
         obtain⟨m,hm⟩: ∃m,m=out.length:=⟨_,rfl⟩
         have HM:=Aside0.mk hm
         have hm9:m≤1000000:=by omega
         obtain⟨Ao0,co0,ev⟩:=Kd.R_slice HR.out
         subst ev
         clear hq1 hh hm h1 h2 h23 h3
         go_wp2_with(((with_reducible refine gate_builtin (b:= .append) (xs:= #[.tmp 58, .tmp 62]) rfl ?_);at_builtin;refine Kd.R_append k44 (w0:=w) w.heap.size rfl (.tmp 58) (.tmp 62) 25 44 (.agg #[(.int .i64 0),(.int .i64 0),(.int .i64 0),(.int .i64 0),(.slice none 0 0)]) 56 rfl Try.underlying25 hunk_Build.infoH rfl (by decide) (by omega) (.slice Ao0 out.length co0) out h [.int .i64 (a:Int), .int .i64 0, .int .i64 (b:Int), .int .i64 0, .slice none 0 0] (fun _=>True) (fun _=>False) rfl rfl ?aP (fun _ hk=>hk.elim) ?aF ?aO ?aB ?aS ?aL ?_;(case aP=>rw [HH.out];exact k44_mkM _ _ _ (⟨(a:Int),0,(b:Int),0,[]⟩:S44) (Kd.R_nil _ _ _ _ _));(case aF=>exact fun _ _=>trivial);(case aO=>exact HR.out);(case aB=>exact HB2.out.trans (Below.mono (by repeat((with_reducible exact HB.out))) HB2.out.size));(case aS=>exact Nat.le_trans HB2.out.size (Below.size (by repeat((with_reducible exact HB.out)))));(case aL=>omega);intro v1_ wq ho_ hb_ hg_ hat_;rw [← HO.out] at ho_;have hy_:=Below.size (by repeat((with_reducible exact HB.out)));have HBq:Aside0 (Below w2.heap.size w2 wq):=⟨pw_below_grown (by repeat((with_reducible exact HB.out))) _ (Below.size (by repeat((with_reducible exact HB.out)))) hg_ (fun k_ e_=>Hown.out k_ e_)⟩;have hown_: ∀k_,v1_.ownBlock=some k_→w2.heap.size≤k_:=(fun k_ e_=>hat_.elim (fun e=>Hown.out k_ (e.symm.trans e_)) (fun ⟨b_,e,hle⟩=>Nat.le_trans hy_ (by have:=e.symm.trans e_;injection this with this;rw [← this];exact hle)));have hol1:oo.length=m+1:=(by rw [HO.out,HM.out];simp);obtain⟨Ao,co,ev⟩:=Kd.R_slice ho_;rw [hol1] at ev;subst ev;obtain⟨go,rfl⟩:=jalousieref09_Build.addr ho_;have HRq:=Aside0.mk ho_;have HOWNq:=Aside0.mk hown_;have hRk:=HRq.out;obtain⟨_,A4,c4,hl0,hl1,hl2,hl3,hl4,hlc4,hR4,hfz,cg,hcg⟩:=jalousieref09_Build.last hRk HO.out;(try clear hx0 hx1);obtain⟨hx0,hx1⟩:=HXY.out wq HBq.out;clear ho_ hb_ hg_ hat_ hy_ hown_ hol1))
         have hXb:=World.alloc_heap_new wq (.cells #[.int .i64 h.f0, .int .i64 h.f1, .int .i64 h.f2, .int .i64 h.f3, .slice A4 h.f4.length c4] 44 (0,0))
         have hal:Below wq.heap.size wq (wq.alloc (.cells #[.int .i64 h.f0, .int .i64 h.f1, .int .i64 h.f2, .int .i64 h.f3, .slice A4 h.f4.length c4] 44)):=below_alloc (Below.refl _ _) _
         have hBw:=HBq.out.trans (hal.mono HBq.out.size)
         have hRo:=Kd.R_below hRk hal
         have hR4w:=Kd.R_below hR4 hal
         have hcgw:=blk_alloc hcg (.cells #[.int .i64 h.f0, .int .i64 h.f1, .int .i64 h.f2, .int .i64 h.f3, .slice A4 h.f4.length c4] 44)
         have hsx:wq.heap.size<(wq.alloc (.cells #[.int .i64 h.f0, .int .i64 h.f1, .int .i64 h.f2, .int .i64 h.f3, .slice A4 h.f4.length c4] 44)).heap.size:=blk_lt hXb
         have hh4:h.f4.length≤1000000:=by
          have:=(HK.out.2.2.2 h (by simp)).2.2
          omega
         replace hXb:=blk_drew hXb
         replace hBw:=hBw.drew
         replace hRo:=Kd.R_drew hRo
         replace hR4w:=Kd.R_drew hR4w
         replace hcgw:=blk_drew hcgw
         have hRob:=Kd.R_drew (Kd.R_below (Kd.R_mono (Kd.R_bound hRk) (ok':=fun k_=>k_<wq.heap.size) (fun k_ hk_=>hk_.2.2.1)) hal)
         have hgoX:go<wq.heap.size:=Kd.R_lt hRk go (by simp [Value.ownBlock])
         clear hal hRk hR4 hl0 hl1 hl2 hl3 hl4 hx0 hx1
         obtain⟨W,hWe⟩: ∃W,W=(wq.alloc (.cells #[.int .i64 h.f0, .int .i64 h.f1, .int .i64 h.f2, .int .i64 h.f3, .slice A4 h.f4.length c4] 44)).drew:=⟨_,rfl⟩
         rw [← hWe] at hXb hBw hRo hR4w hcgw hRob
         have hsW:wq.heap.size<W.heap.size:=by rw [hWe];exact hsx
         have hWb:w.heap.size≤W.heap.size:=Nat.le_trans HB2.out.size hBw.size
         have hSk: ∀Y:World,Below W.heap.size W Y→Y.cell? ⟨wq.heap.size,4,none⟩=some (.slice A4 h.f4.length c4)∧Y.cell? ⟨gl,i*2,none⟩=some (.int .i64 x.f0)∧Y.cell? ⟨gl,i*2+1,none⟩=some (.slice A1 x.f1.length c1):=fun Y hY=>⟨(hY.cell hsW).trans ((blk_cell hXb 4).trans rfl),HXY.out Y (hBw.trans (hY.mono hBw.size))⟩
         have hCk: ∀Y:World,Below W.heap.size W Y→ReadsRow (k47.M Y w.heap.size (fun k_=>k_<W.heap.size)) 2 Y A4 h.f4.length h.f4:=fun Y hY=>by
          have h1:=Kd.R_below (Kd.R_mono (Kd.R_bound hR4w) (ok':=fun k_=>k_<W.heap.size) (fun k_ hk_=>hk_.2.2.1)) hY
          obtain⟨A_,c_,e_,_,hr_⟩:=OwnRow.reads h1.2
          injection e_ with e_ _ _
          subst e_
          exact ReadsRow.imp_ hr_ (Below.refl _ _) (fun _ _ hp=>k47.M_mono (fun _ hk=>hk.1) hp)
         have hXW:=Aside0.mk hXb
         have HV1W:=Kd.R_lower (Kd.R_below HV1.out hBw) HB12.out
         have hS0:=hSk W (Below.refl _ _)
         clear hXb
         refine start_ (n:=12) (S:=fun w'=>w'.cell? ⟨wq.heap.size,4,none⟩=some (.slice A4 h.f4.length c4)∧w'.cell? ⟨gl,i*2,none⟩=some (.int .i64 x.f0)∧w'.cell? ⟨gl,i*2+1,none⟩=some (.slice A1 x.f1.length c1)) (ds:= [11]) (Sq.bl 12 0) (by kernel_rfl) rfl (by rfl) (by rw [← hWe];exact hS0) (fun hS=>?_)
         rw [← hWe] at hS ⊢;clear hWe hS0 hsx
         refine Sq.pu (v:=?_) (a':=?_) 1 89 (Sq.bl 12 2) (by kernel_rfl) rfl rfl (fun _ _ _ h=>h) (by rfl) ?_ ?_ ?_;rotate_left;(· intro w';go_simp;with_reducible rfl);rotate_left;(· simp only [Act.put,zp1,zp2,zp3,zp4,zp5];rfl)
         refine Sq.pu (v:=?_) (a':=?_) 4 92 (Sq.bl 12 18) (by kernel_rfl) rfl rfl (fun _ _ _ h=>h) (by rfl) ?_ ?_ ?_;rotate_left;(· intro w';go_simp;with_reducible rfl);rotate_left;(· simp only [Act.put,zp1,zp2,zp3,zp4,zp5];rfl)
         refine Sq.pu (v:=?_) (a':=?_) 5 93 (Sq.bl 12 50) (by kernel_rfl) rfl rfl (fun _ _ _ h=>h) (by rfl) ?_ ?_ ?_;rotate_left;(· intro w';go_simp;with_reducible rfl);rotate_left;(· simp only [Act.put,zp1,zp2,zp3,zp4,zp5];rfl)
         refine Sq.pu (v:=?_) (a':=?_) 6 94 (Sq.bl 12 114) (by kernel_rfl) rfl rfl (fun _ _ _ h=>h) (by rfl) ?_ ?_ ?_;rotate_left;(· intro w';go_simp;with_reducible rfl);rotate_left;(· simp only [Act.put,zp1,zp2,zp3,zp4,zp5];rfl)
         refine take_ (i:=2) (N:=some 90) (v:=?_) (a':=?_) (Sq.bl 12 118) rfl rfl (by kernel_rfl) (fun _ _ _ h=>h) (Or.inl ⟨by rfl,?_⟩) hS ?_ ?_;rotate_left;(· rintro w' ⟨s0,s1,s2⟩;go_simp;with_reducible rfl);rotate_left;(· simp only [Act.put,zp1,zp2,zp3,zp4,zp5];rfl)
         refine take_ (i:=7) (N:=some 95) (v:=?_) (a':=?_) (Sq.bl 12 246) rfl rfl (by kernel_rfl) (fun _ _ _ h=>h) (Or.inl ⟨by rfl,?_⟩) hS ?_ ?_;rotate_left;(· rintro w' ⟨s0,s1,s2⟩;go_simp;with_reducible rfl);rotate_left;(· simp only [Act.put,zp1,zp2,zp3,zp4,zp5];rfl)
         refine join_ 3 (Sq.bl 12 511) (fun s:Value×Value×Value=> [(88,s.1),(91,s.2.1),(96,s.2.2)]) (fun s X=>Below W.heap.size W X∧Kd.R k47 47 X w.heap.size (fun _=>True) s.2.1 h.f4∧ ∃g,s.2.2= .slice (some ⟨g,0,none⟩) 1 1∧X.heap[g]? =some (.cells #[.int .i64 x.f0, .slice A1 x.f1.length c1] 47 (0,0))∧some g≠s.2.1.ownBlock∧W.heap.size≤g∧ ∀k_,s.2.1.ownBlock=some k_→W.heap.size≤k_) ?tail (fun hcont=> ?ord)
         case ord=>
          refine two_ (i:=0) (j:=8) (Ni:=some 88) (Nj:=some 96) (Sq.bl 12 247) (Sq.bl 12 502) rfl rfl rfl rfl (by kernel_rfl) (by decide) (by decide) (fun K hK=>?_) (fun K hK=>?_)
          ·skip
           refine value_ (w1:=?_) (v:=?_) (by rfl) rfl ?_ ?_
           rotate_left 2
           ·go_simp
            constructor
            ·rfl
            ·rfl
           have hB0:=(Below.refl W.heap.size W).alloc (Below.refl W.heap.size W).size (.cells #[] 47)
           have hq0:=World.alloc_heap_new W (.cells #[] 47)
           have hr0:Kd.R k47 47 (W.alloc (.cells #[] 47)) (w.heap.size) (fun _=>True) (.slice (some ⟨W.heap.size,0,none⟩) 0 0) []:=Rd.empty k47 _ _ _ _ _ hq0 (Nat.le_trans hWb (Below.refl W.heap.size W).size) trivial (by decide)
           refine hK.out _ _ (hSk _ hB0) (fun hS=>?_)
           refine norm_ (a':=?_) ?_ ?_
           rotate_left
           ·show Act.put _ (some 88) _=_
            simp only [Act.put,zp1,zp2,zp3,zp4,zp5]
            rfl
           refine two_ (i:=3) (j:=8) (Ni:=some 91) (Nj:=some 96) (Sq.bl 12 255) (Sq.bl 12 503) rfl rfl rfl rfl (by kernel_rfl) (by decide) (by decide) (fun K hK=>?_) (fun K hK=>?_)
           ·skip
            refine Kd.R_append_rows_step k47 (w0:=W) (w.heap.size) (by rfl) (.tmp 88) (.tmp 90) 22 47 (.agg #[(.int .i64 0),(.slice none 0 0)]) 32 rfl Try.underlying22 info47 rfl (by decide) (by omega) (.slice (some ⟨W.heap.size,0,none⟩) 0 0) [] h.f4 _ _ _ (fun _=>True) (fun k_=>k_<W.heap.size) rfl rfl hr0 (hCk _ hB0) (fun _ _ h=>h) (fun k_ hk_=>⟨trivial,fun e_=>by simp [Value.ownBlock] at e_;omega⟩) (fun _ _=>trivial) (hB0.mono hWb) (Nat.le_trans hWb hB0.size) ?aL ?_
            (case aL=>simp only [List.length_nil];omega)
            intro v1 w1 hr1 hB1_ hg1 hat1
            have hB1:=Rd.grown_new hB0 hg1 (by simp [Value.ownBlock])
            have hn1:=Rd.own_new hat1 hB0.size (by simp [Value.ownBlock])
            clear hB1_
            refine hK.out _ _ (hSk _ hB1) (fun hS=>?_)
            refine norm_ (a':=?_) ?_ ?_
            rotate_left
            ·show Act.put _ (some 91) _=_
             simp only [Act.put,zp1,zp2,zp3,zp4,zp5]
             rfl
            refine one_ (i:=8) (N:=some 96) (Sq.bl 12 511) rfl rfl (by kernel_rfl) (by decide) (fun K hK=>?_)
            refine value_ (w1:=?_) (v:=?_) (by rfl) rfl ?_ ?_
            rotate_left 2
            ·go_simp
             constructor
             ·rfl
             ·rfl
            have hB2:=hB1.alloc hB1.size (.cells #[.int .i64 x.f0, .slice A1 x.f1.length c1] 47)
            have hl2:=World.alloc_heap_new w1 (.cells #[.int .i64 x.f0, .slice A1 x.f1.length c1] 47)
            have hr2:=Kd.R_alloc hr1 (.cells #[.int .i64 x.f0, .slice A1 x.f1.length c1] 47)
            refine hK.out _ _ (hSk _ hB2) (fun hS=>?_)
            refine norm_ (a':=?_) ?_ ?_
            rotate_left
            ·show Act.put _ (some 96) _=_
             simp only [Act.put,zp1,zp2,zp3,zp4,zp5]
             rfl
            exact hcont (.slice (some ⟨W.heap.size,0,none⟩) 0 0,v1, .slice (some ⟨w1.heap.size,0,none⟩) 1 1) _ ⟨hB2,hr2,_,rfl,hl2,(fun e_=>by have h_:=Kd.R_lt hr1 _ e_.symm;omega),hB1.size,hn1⟩
           ·skip
            refine value_ (w1:=?_) (v:=?_) (by rfl) rfl ?_ ?_
            rotate_left 2
            ·go_simp
             constructor
             ·rfl
             ·rfl
            have hB2:=hB0.alloc hB0.size (.cells #[.int .i64 x.f0, .slice A1 x.f1.length c1] 47)
            have hl2:=World.alloc_heap_new (W.alloc (.cells #[] 47)) (.cells #[.int .i64 x.f0, .slice A1 x.f1.length c1] 47)
            simp only [World.size_alloc] at hl2
            have hr02:=Kd.R_alloc hr0 (.cells #[.int .i64 x.f0, .slice A1 x.f1.length c1] 47)
            refine hK.out _ _ (hSk _ hB2) (fun hS=>?_)
            refine norm_ (a':=?_) ?_ ?_
            rotate_left
            ·show Act.put _ (some 96) _=_
             simp only [Act.put,zp1,zp2,zp3,zp4,zp5]
             rfl
            refine one_ (i:=3) (N:=some 91) (Sq.bl 12 511) rfl rfl (by kernel_rfl) (by decide) (fun K hK=>?_)
            refine Kd.R_append_rows_step k47 (w0:=W) (w.heap.size) (by rfl) (.tmp 88) (.tmp 90) 22 47 (.agg #[(.int .i64 0),(.slice none 0 0)]) 32 rfl Try.underlying22 info47 rfl (by decide) (by omega) (.slice (some ⟨W.heap.size,0,none⟩) 0 0) [] h.f4 _ _ _ (fun _=>True) (fun k_=>k_<W.heap.size) rfl rfl hr02 (hCk _ hB2) (fun _ _ h=>h) (fun k_ hk_=>⟨trivial,fun e_=>by simp [Value.ownBlock] at e_;omega⟩) (fun _ _=>trivial) (hB2.mono hWb) (Nat.le_trans hWb hB2.size) ?aL ?_
            (case aL=>simp only [List.length_nil];omega)
            intro v1 w1 hr1 hB1_ hg1 hat1
            have hB1:=Rd.grown_new hB2 hg1 (by simp [Value.ownBlock])
            have hn1:=Rd.own_new hat1 hB2.size (by simp [Value.ownBlock])
            clear hB1_
            have hl1:=(hg1.block _ (blk_lt hl2) (by simp [Value.ownBlock])).trans hl2
            refine hK.out _ _ (hSk _ hB1) (fun hS=>?_)
            refine norm_ (a':=?_) ?_ ?_
            rotate_left
            ·show Act.put _ (some 91) _=_
             simp only [Act.put,zp1,zp2,zp3,zp4,zp5]
             rfl
            exact hcont (.slice (some ⟨W.heap.size,0,none⟩) 0 0,v1, .slice (some ⟨W.heap.size+1,0,none⟩) 1 1) _ ⟨hB1,hr1,_,rfl,hl1,Rd.lit_ne hr0 hr1 hat1 hl2 (by simp),by simp,hn1⟩
          ·skip
           refine value_ (w1:=?_) (v:=?_) (by rfl) rfl ?_ ?_
           rotate_left 2
           ·go_simp
            constructor
            ·rfl
            ·rfl
           have hB2:=(Below.refl W.heap.size W).alloc (Below.refl W.heap.size W).size (.cells #[.int .i64 x.f0, .slice A1 x.f1.length c1] 47)
           have hl2:=World.alloc_heap_new W (.cells #[.int .i64 x.f0, .slice A1 x.f1.length c1] 47)
           refine hK.out _ _ (hSk _ hB2) (fun hS=>?_)
           refine norm_ (a':=?_) ?_ ?_
           rotate_left
           ·show Act.put _ (some 96) _=_
            simp only [Act.put,zp1,zp2,zp3,zp4,zp5]
            rfl
           refine one_ (i:=0) (N:=some 88) (Sq.bl 12 503) rfl rfl (by kernel_rfl) (by decide) (fun K hK=>?_)
           refine value_ (w1:=?_) (v:=?_) (by rfl) rfl ?_ ?_
           rotate_left 2
           ·go_simp
            constructor
            ·rfl
            ·rfl
           have hB0:=hB2.alloc hB2.size (.cells #[] 47)
           have hq0:=World.alloc_heap_new (W.alloc (.cells #[.int .i64 x.f0, .slice A1 x.f1.length c1] 47)) (.cells #[] 47)
           have hr0:Kd.R k47 47 ((W.alloc (.cells #[.int .i64 x.f0, .slice A1 x.f1.length c1] 47)).alloc (.cells #[] 47)) (w.heap.size) (fun _=>True) (.slice (some ⟨(W.alloc (.cells #[.int .i64 x.f0, .slice A1 x.f1.length c1] 47)).heap.size,0,none⟩) 0 0) []:=Rd.empty k47 _ _ _ _ _ hq0 (Nat.le_trans hWb hB2.size) trivial (by decide)
           simp only [World.size_alloc] at hr0 hq0
           have hl0:=blk_alloc hl2 (.cells #[] 47)
           refine hK.out _ _ (hSk _ hB0) (fun hS=>?_)
           refine norm_ (a':=?_) ?_ ?_
           rotate_left
           ·show Act.put _ (some 88) _=_
            simp only [Act.put,zp1,zp2,zp3,zp4,zp5]
            rfl
           refine one_ (i:=3) (N:=some 91) (Sq.bl 12 511) rfl rfl (by kernel_rfl) (by decide) (fun K hK=>?_)
           refine Kd.R_append_rows_step k47 (w0:=W) (w.heap.size) (by rfl) (.tmp 88) (.tmp 90) 22 47 (.agg #[(.int .i64 0),(.slice none 0 0)]) 32 rfl Try.underlying22 info47 rfl (by decide) (by omega) (.slice (some ⟨W.heap.size+1,0,none⟩) 0 0) [] h.f4 _ _ _ (fun _=>True) (fun k_=>k_<W.heap.size) rfl rfl hr0 (hCk _ hB0) (fun _ _ h=>h) (fun k_ hk_=>⟨trivial,fun e_=>by simp [Value.ownBlock] at e_;omega⟩) (fun _ _=>trivial) (hB0.mono hWb) (Nat.le_trans hWb hB0.size) ?aL ?_
           (case aL=>simp only [List.length_nil];omega)
           intro v1 w1 hr1 hB1_ hg1 hat1
           have hB1:=Rd.grown_new hB0 hg1 (by simp [Value.ownBlock])
           have hn1:=Rd.own_new hat1 hB0.size (by simp [Value.ownBlock])
           clear hB1_
           have hl1:=(hg1.block _ (blk_lt hl0) (by simp [Value.ownBlock])).trans hl0
           refine hK.out _ _ (hSk _ hB1) (fun hS=>?_)
           refine norm_ (a':=?_) ?_ ?_
           rotate_left
           ·show Act.put _ (some 91) _=_
            simp only [Act.put,zp1,zp2,zp3,zp4,zp5]
            rfl
           exact hcont (.slice (some ⟨W.heap.size+1,0,none⟩) 0 0,v1, .slice (some ⟨W.heap.size,0,none⟩) 1 1) _ ⟨hB1,hr1,_,rfl,hl1,Rd.lit_ne2 hr1 hat1 (by simp [Value.ownBlock]) (by simp only [World.size_alloc];omega),Nat.le_refl _,hn1⟩
         case tail=>
          rintro ⟨s88_,s91_,s96_⟩ wt ⟨hBt,hRt,gt,he_,hlt_,hnt,hgt,hot⟩
          simp only at he_ hRt hnt hot
          subst he_
          have hS:=hSk _ hBt
          simp only [putAll,Act.put,List.setIfInBounds_toArray,List.set_cons_zero,List.set_cons_succ]
          refine one_ (i:=9) (N:=some 97) (Sq.bl 12 1023) rfl rfl (by kernel_rfl) (by decide) (fun K hK=>?_)
          refine Kd.R_append_rows_step k47 (Rr:=fun y c_=>y=x∧c_= [.int .i64 x.f0, .slice A1 x.f1.length c1]) (w0:=W) w.heap.size (by rfl) (.tmp 91) (.tmp 96) 22 47 (.agg #[(.int .i64 0),(.slice none 0 0)]) 32 rfl Try.underlying22 info47 rfl (by decide) (by omega) s91_ h.f4 [x] _ _ _ (fun _=>True) (fun k_=>k_<W.heap.size) rfl rfl hRt (Rd.lit_reads x 2 rfl hlt_ (by intro u hu;simp at hu;rcases hu with rfl|rfl<;>rfl)) (fun y c_ hy=>by rw [hy.1,hy.2];exact k47_mkM _ _ _ x (Kd.R_mono (Kd.R_bound HV1W) (fun k_ hk_=>hk_.2.2.1) |> fun h_=>Kd.R_below h_ hBt)) (fun k_ hk_=>⟨trivial,fun e_=>by have:=hot k_ e_.symm;omega⟩) (fun _ _=>trivial) (hBt.mono hWb) (Nat.le_trans hWb hBt.size) ?aL ?_
          (case aL=>omega)
          intro v97 w97 hr97 hB97_ hg97 hat97
          obtain⟨A97,c97,rfl⟩:=Kd.R_slice hr97
          have hB97:=Rd.grown_new hBt hg97 hot
          have hX97:=(hB97.block _ hsW).trans hXW.out
          have hf97:=blk_frozen hX97 4
          refine hK.out _ _ (hSk _ hB97) (fun hS=>?_)
          clear hK K
          refine norm_ (a':=?_) ?_ ?_
          rotate_left
          ·show Act.put _ (some 97) _=_
           simp only [Act.put,zp1,zp2,zp3,zp4,zp5]
           rfl
          refine Sq.pu (v:=?_) (a':=?_) 10 98 (Sq.bl 12 2047) (by kernel_rfl) rfl rfl (fun _ _ _ h=>h) (by rfl) ?_ ?_ ?_;rotate_left;(· intro w';go_simp;with_reducible rfl);rotate_left;(· simp only [Act.put,zp1,zp2,zp3,zp4,zp5];rfl)
          refine last_ (i:=11) (N:=none) (Sq.bl 12 4095) rfl rfl (by kernel_rfl) (by decide) (fun K hK=>?_)
          refine skip_ (w1:=?_) (by rfl) rfl ?_ ?_
          rotate_left
          ·go_simp
           rfl
          refine hK.out _ _ ?_
          clear hK K
          refine done_ (by kernel_rfl) ?_
          have hb5:(w97.setCell ⟨wq.heap.size,4,none⟩ (.slice A97 (h.f4++ [x]).length c97)).heap[wq.heap.size]? =some (.cells #[.int .i64 h.f0, .int .i64 h.f1, .int .i64 h.f2, .int .i64 h.f3, .slice A97 (h.f4++ [x]).length c97] 44 (0,0)):=(blk_set hX97 4 _).trans rfl
          have hcg97:=(hB97.block _ (Nat.lt_trans hgoX hsW)).trans hcgw
          have hR5:=Kd.R_far (p:=⟨wq.heap.size,4,none⟩) (Kd.R_below hRob hB97) (fun k_ hk_=>by show k_≠wq.heap.size;omega) (.slice A97 (h.f4++ [x]).length c97)
          have hv5:=Kd.R_set (Kd.R_types hr97 hcg97 (by decide)) hX97 (by decide) 4 (.slice A97 (h.f4++ [x]).length c97)
          have hBX:Below w2.heap.size w2 (w97.setCell ⟨wq.heap.size,4,none⟩ (.slice A97 (h.f4++ [x]).length c97)):=(hBw.trans (hB97.mono hBw.size)).setCell HBq.out.size _
          have e97:(h.f4++ [x]).length=h.f4.length+1:=by simp
          rw [e97] at hb5 hR5 hv5 hBX
          clear hS hf97 hX97 hr97 hB97 hB97_ hg97 hat97 hRt hBt hlt_ hnt hgt hot hSk hCk hXW HV1W hcgw hcg97 hRo hR4w hRob
          generalize w97.setCell ⟨wq.heap.size,4,none⟩ (.slice A97 (h.f4.length+1) c97)=W5 at hb5 hR5 hv5 hBX ⊢
          have hy0:=blk_cell hb5 0
          have hy1:=blk_cell hb5 1
          have hy2:=blk_cell hb5 2
          have hy3:=blk_cell hb5 3
          have hy4:=blk_cell hb5 4
          have hyf1:=blk_frozen hb5 1
          have hyf3:=blk_frozen hb5 3
          have HB5:=Aside0.mk hb5
          have HR5:=Aside0.mk hR5
          have HV5:=Aside0.mk hv5
          have HBX:=Aside0.mk hBX
          clear hb5 hR5 hv5 hBX
          obtain⟨⟨hf01,hf02⟩,⟨hf21,hf22⟩,_⟩:=HK.out.2.2.2 h (by simp)
          have HR7:=Aside0.mk (Kd.R_mono (Kd.R_far (p:=⟨wq.heap.size,3,none⟩) (Kd.R_far (p:=⟨wq.heap.size,1,none⟩) HR5.out (fun k_ hk_=>by show k_≠wq.heap.size;omega) (.int .i64 ((a:Int)-h.f0))) (fun k_ hk_=>by show k_≠wq.heap.size;omega) (.int .i64 (((b:Int)+1)-h.f2))) (fun _ _=>trivial))
          have HV7:=Aside0.mk (Kd.R_mono (Kd.R_set (Kd.R_set HV5.out HB5.out (by decide) 1 (.int .i64 ((a:Int)-h.f0))) (blk_set HB5.out 1 _) (by decide) 3 (.int .i64 (((b:Int)+1)-h.f2))) (fun _ hk=>hk.2))
          have HB7:=Aside0.mk ((HBX.out.setCell (p:=⟨wq.heap.size,1,none⟩) HBq.out.size (.int .i64 ((a:Int)-h.f0))).setCell (p:=⟨wq.heap.size,3,none⟩) HBq.out.size (.int .i64 (((b:Int)+1)-h.f2)))
          go_wp2_with(refine jalousieref09_Build.store5 (w0:=w) w.heap.size ⟨h.f0,((a:Int)-h.f0),h.f2,(((b:Int)+1)-h.f2),h.f4++ [x]⟩ rfl rfl rfl (by rfl) (by rfl) HR7.out HO.out HV7.out (HB2.out.trans (HB7.out.mono HB2.out.size)) ?_;intro w8 hr8 hb8 hg8)
          go_roundw
          case rel=>
           obtain rfl:=HQ1.out
           refine⟨i+1,_,by omega,by rfl,by rfl,rfl,by rfl,Hlp.out,hr8,?_,?_,Rd.grown_new HB7.out hg8 (fun k_ e_=>HOWNq.out k_ e_)⟩
           ·exact HOWNq.out
           ·have hk0:=HK.out
            have hk1:=hk0.1
            have hk4:=hk0.2.2.2
            have hhl:=(hk4 h (by simp)).2.2
            refine⟨?_,?_,?_,?_⟩
            ·simp only [List.length_append,List.length_singleton] at hk1 ⊢
             omega
            ·simp only
             omega
            ·simp only
             omega
            ·intro y hy
             simp only [List.mem_append,List.mem_singleton] at hy
             rcases hy with hy|rfl
             ·exact⟨(hk4 y (by simp [hy])).1,(hk4 y (by simp [hy])).2.1,Nat.le_succ_of_le (hk4 y (by simp [hy])).2.2⟩
             ·refine⟨⟨hf01,hf02⟩,⟨hf21,hf22⟩,?_⟩
              simp only [List.length_append,List.length_singleton]
              omega
          case measure=>
           simp only [intOf,Int.toNat_natCast]
           omega
    ·obtain rfl:i=l.length:=by omega
     rw [Nat.sub_self] at hlp
     obtain rfl:=Option.some.inj (show some _=some _ from hlp)
     obtain⟨hol,hoj⟩:=jalousieref09_Build.norm_at k out o Hnorm.out
     have HOJ:=Aside0.mk hoj
     have HOL:=Aside0.mk hol
     have ho9:out.length≤1000000:=Nat.le_trans hok.1 hsz
     obtain⟨Ao,co,rfl⟩:=Kd.R_slice hR
     obtain⟨wo,rfl⟩: ∃wo:World,wo=wr:=⟨_,rfl⟩
     have HR:=Aside0.mk hR
     have HB:=Aside0.mk hB
     have Hown:=Aside0.mk hown
     clear hlp hR hB hown hok hol hoj hlt
     go_wp2
     go_loopw [16] (fun vi wq=> ∃j:Nat,j≤out.length∧vi= .int .i64 (j:Int)∧Kd.R k44 44 wq w.heap.size (fun _=>True) (.slice Ao out.length co) (o.take j++out.drop j)∧Below w2.heap.size w2 wq)
      (fun vi _=>out.length-(intOf vi).toNat)
     case atStart=>exact⟨0,Nat.zero_le _,rfl,HR.out,HB.out⟩
     case round=>
      obtain⟨j,hj,rfl,hRj,hBj⟩:=hrel
      by_cases hjl:j<out.length
      ·obtain⟨⟨n1,n2⟩,hn1,hn2⟩:=HOJ.out j hjl
       obtain⟨go,rfl⟩: ∃go,Ao=some ⟨go,0,none⟩:=by
        obtain⟨inner,hw_⟩:=Kd.R_own hRj
        rcases hw_.2 with ⟨hv,_⟩|⟨g,cap',cur,hv,_⟩
        ·injection hv with _ h2 _
         omega
        ·injection hv with h1 _ _
         exact⟨g,h1⟩
       obtain⟨A4,c4,hl0,hl1,hl2,hl3,hl4,hlc4,hR4⟩:=jalousieref09_Build.elem hRj hjl
       rw [jalousieref09_Build.get_at HOL.out hjl] at hl0 hl1 hl2 hl3 hl4 hlc4 hR4
       have hset:=jalousieref09_Build.set_at HOL.out hjl
       rw [hn2] at hset
       have HSET:=Aside0.mk hset
       generalize out.getD j z44=h at hn1 hn2 hl0 hl1 hl2 hl3 hl4 hlc4 hR4 HSET
       have HN1:=Aside0.mk hn1
       have HRJ:=Aside0.mk hRj
       have HBJ:=Aside0.mk hBj
       have hgo:=Kd.R_lt hRj go (by simp [Value.ownBlock])
       have hgo2:w2.heap.size≤go:=Hown.out go (by simp [Value.ownBlock])
       have HC4:=Aside0.mk (Kd.C_below (Kd.R_reads' hR4).2.2 (below_alloc (Below.refl wr.heap.size wr) (.cells #[.int .i64 h.f0, .int .i64 h.f1, .int .i64 h.f2, .int .i64 h.f3, .slice A4 h.f4.length c4] 44)))
       have hXq:=World.alloc_heap_new wr (.cells #[.int .i64 h.f0, .int .i64 h.f1, .int .i64 h.f2, .int .i64 h.f3, .slice A4 h.f4.length c4] 44 (0,0))
       have HXq:=Aside0.mk hXq
       have HWj:Aside0 (wrap64 ((j:Int)+1)=((j+1:Nat):Int)):=⟨by unfold wrap64;omega⟩
       have hjl2:((j:Int)<(out.length:Int))=True:=eq_true (by omega)
       have hjl3:decide ((j:Int)<(out.length:Int))=true:=decide_eq_true (by omega)
       clear hn1 hn2 hRj hBj hR4 hset hXq
       have hal:Below wr.heap.size wr (wr.alloc (.cells #[.int .i64 h.f0, .int .i64 h.f1, .int .i64 h.f2, .int .i64 h.f3, .slice A4 h.f4.length c4] 44)):=below_alloc (Below.refl _ _) _
       have hsx:wr.heap.size<(wr.alloc (.cells #[.int .i64 h.f0, .int .i64 h.f1, .int .i64 h.f2, .int .i64 h.f3, .slice A4 h.f4.length c4] 44)).heap.size:=blk_lt HXq.out
       have HAL:=Aside0.mk hal
       have HSX:=Aside0.mk hsx
       clear hal hsx
       go_wp2_with(first|(go_at_call 23;refine(jalousieref08_Normal.calls k A4 c4 h.f4 n1 n2 _ HC4.out hlc4 HN1.out).mono ?_;rintro e w5 ⟨v5,rfl,ho5,hb5⟩;obtain⟨A5,c5,rfl⟩:=Kd.R_slice (Kd.S_R ho5);have hX5:=(hb5.block _ HSX.out).trans HXq.out;have hy0:=blk_cell hX5 0;have hy1:=blk_cell hX5 1;have hy2:=blk_cell hX5 2;have hy3:=blk_cell hX5 3;have hy4:=blk_cell hX5 4;have hyf4:=blk_frozen hX5 4;have HR5:=Aside0.mk (Kd.R_mono (Kd.R_far (p:=⟨wr.heap.size,4,none⟩) (Kd.R_below (Kd.R_mono (Kd.R_bound HRJ.out) (ok':=fun k_=>k_<wr.heap.size) (fun k_ hk_=>hk_.2.2.1)) (HAL.out.trans (hb5.mono HAL.out.size))) (fun k_ hk_=>by show k_≠wr.heap.size;omega) (.slice A5 n1.length c5)) (ok':=fun _=>True) (fun _ _=>trivial));have HV5:=Aside0.mk (Kd.R_mono (Kd.R_far (p:=⟨wr.heap.size,4,none⟩) (Kd.R_mono (Kd.R_bound (Kd.S_R ho5)) (ok':=fun k_=>wr.heap.size<k_) (fun k_ hk_=>Nat.lt_of_lt_of_le HSX.out hk_.2.1)) (fun k_ hk_=>by show k_≠wr.heap.size;omega) (.slice A5 n1.length c5)) (ok':=fun k_=>k_≠go) (fun k_ hk_=>by omega));have HB5:=Aside0.mk ((HBJ.out.trans ((HAL.out.trans (hb5.mono HAL.out.size)).mono HBJ.out.size)).setCell (p:=⟨wr.heap.size,4,none⟩) HBJ.out.size (.slice A5 n1.length c5));clear ho5 hb5 hX5)|(refine jalousieref09_Build.storeAt (w0:=w) w.heap.size (m:=j) ⟨h.f0,h.f1,h.f2,h.f3,n1⟩ rfl rfl rfl (by rfl) (by rfl) HR5.out hjl (Kd.R_lower HV5.out ?aLW) (HB2.out.trans (HB5.out.mono HB2.out.size)) ?_;(case aLW=>exact Nat.le_trans HB2.out.size (Nat.le_trans HBJ.out.size HAL.out.size));intro w8 hr8 hb8 hg8;rw [HSET.out] at hr8))
       go_roundw
       case rel=>exact⟨j+1,by omega,by rfl,hr8,Rd.grown_new HB5.out hg8 (fun k_ e_=>by simp [Value.ownBlock] at e_;omega)⟩
       case measure=>
        simp only [intOf,Int.toNat_natCast]
        omega
      ·obtain rfl:j=out.length:=by omega
       have hge:decide ((out.length:Int)<(out.length:Int))=false:=by simp
       rw [List.drop_length,List.append_nil,List.take_of_length_le (by rw [HOL.out];exact Nat.le_refl _)] at hRj
       have HRJ:=Aside0.mk hRj
       have HBJ:=Aside0.mk hBj
       clear hRj hBj hjl
       go_wp2
       go_ret2
       exact⟨_,rfl,HRJ.out,HB2.out.trans (HBJ.out.mono HB2.out.size)⟩
 ·rw [if_neg he0] at h
  have hr:=Option.some.inj h
  simp only [Prod.mk.injEq] at hr
  obtain⟨rfl,rfl⟩:=hr
  have hne:(e0 != 0)=true:=bne_iff_ne.mpr he0
  clear h he0
  go_enter Try.func16,Try.ntmps16
  go_wp2_with(go_at_call 23;refine HN.out.mono ?_;rintro e w1 ⟨v0,rfl,ho,hb⟩)
  go_ret2
  exact⟨_,rfl,Kd.R_nil _ _ _ _ _,hb⟩
end Go.Proofs.Ytfnbodjmmkjlcaa.H
end
section
namespace Go.Proofs.Ytfnbodjmmkjlcaa.H
open Go.RowKit Go.Proofs.YtfnbodjmmkjlcaaW.PrintWords Go.Proofs.YtfnbodjmmkjlcaaW.PrintLast Go.Proofs.YtfnbodjmmkjlcaaW.PrintMore
attribute [local go_sem] max2_int min2_int max_two min_two max_three min_three max_four min_four
set_option linter.unusedVariables false
set_option linter.unusedSimpArgs false
theorem eqA66 (d:Nat) (w:World) (x0 y0:ByteArray) (x1 y1:Bool):
    (Op.equalIn (d+2) 66 (.agg #[.string x0, .bool x1]) (.agg #[.string y0, .bool y1])).run Try.prog w= .ok (x0.toList==y0.toList&&(x1==y1)) w:=by
  refine eqA_of Try.underlying66 (by kernel_rfl) ?_
  refine eqf_cons (by rfl) (by go_simp;rfl) (by go_simp;rfl) (by go_simp) ?_
  exact eqf_last (by rfl) (by go_simp;rfl) (by go_simp;rfl) (by go_simp)
end Go.Proofs.Ytfnbodjmmkjlcaa.H
end
section
namespace Go.Proofs.Ytfnbodjmmkjlcaa.H
open Go.RowKit Go.Proofs.YtfnbodjmmkjlcaaW.PrintWords Go.Proofs.YtfnbodjmmkjlcaaW.PrintLast Go.Proofs.YtfnbodjmmkjlcaaW.PrintMore
attribute [local go_sem] max2_int min2_int max_two min_two max_three min_three max_four min_four
set_option linter.unusedVariables false
set_option linter.unusedSimpArgs false
attribute [local go_sem high] eqA66
def jalousieref01_Same.l0:Nat→List (S66)→List (S66)→Int→Option (Bool)
 | 0,_,_,_=>none
 | k+1,x0,x1,x5=>if x5<(x0.length:Int) then (if 0≤x5 then (if x5<(x1.length:Int) then (if (!((((rd_T66 x0 x5).f0).toList)==(((rd_T66 x1 x5).f0).toList))||(!(((rd_T66 x0 x5).f1)==((rd_T66 x1 x5).f1))))=true then (some false) else (jalousieref01_Same.l0 k x0 x1 (wrap64 (x5+1)))) else (none)) else (none)) else (some true)
def jalousieref01_Same.f (k:Nat) (l0:List (S66)) (l1:List (S66)):Option (Bool):=if (l0.length:Int)=(l1.length:Int) then (jalousieref01_Same.l0 k l0 l1 0) else (some false)
set_option maxHeartbeats 8000000 in
set_option maxRecDepth 100000 in
theorem jalousieref01_Same.calls (k:Nat) (A0:Option Addr) (c0:Nat) (l0:List (S66)) (A1:Option Addr) (c1:Nat) (l1:List (S66)) (r:Bool) (w:World) (hr0:Kd.C k66 w A0 l0.length l0) (hc0:l0.length≤c0) (hr1:Kd.C k66 w A1 l1.length l1) (hc1:l1.length≤c1) (h:jalousieref01_Same.f k l0 l1=some r):
  Calls Try.prog 33 #[.slice A0 l0.length c0, .slice A1 l1.length c1] w fun e w'=>e= .returned (.bool r)∧Drawn0 w w':=by
 have hu66:=Try.underlying66
 have HR0:=Aside0.mk hr0
 have HC0:=Aside0.mk hc0
 clear hr0 hc0
 have HR1:=Aside0.mk hr1
 have HC1:=Aside0.mk hc1
 clear hr1 hc1
 have H:(if (l0.length:Int)=(l1.length:Int) then (jalousieref01_Same.l0 k l0 l1 0) else (some false))=some r:=h
 clear h
 by_cases c3:(l0.length:Int)=(l1.length:Int)
 ·rw [if_pos c3] at H
  have c3b0:((l0.length:Int)==(l1.length:Int))=true:=beq_iff_eq.mpr c3
  have c3b1:((l0.length:Int) != (l1.length:Int))=false:=bne_eq_false_iff_eq.mpr c3
  have c3b2:(l0.length==l1.length)=true:=by(simp at c3 ⊢;omega)
  clear c3
  have H':=Aside0.mk H
  clear H
  go_enter Try.func33,Try.ntmps33
  go_wp2
  go_loopg [5] k (fun kq v5 w'=> ∃(x5_1:Int),v5= .int .i64 x5_1∧Aside0 (jalousieref01_Same.l0 kq l0 l1 x5_1=some r)∧Aside0 (kq≤k)∧Drawn0 w w')
  case atStart=>exact⟨(0),(by rfl),H',⟨Nat.le_refl _⟩,by repeat(exact Drawn0.refl _)⟩
  case round=>
   clear H'
   try clear c3b0
   try clear c3b1
   try clear c3b2
   obtain⟨x5_1,rfl,HA,HK1,⟨m1,rfl⟩⟩:=hrel
   cases gk with
   | zero=>exact absurd HA.out (by simp [jalousieref01_Same.l0])
   | succ k1=>
    have H:=HA.out
    clear HA
    simp only [jalousieref01_Same.l0] at H
    by_cases c4:x5_1<(l0.length:Int)
    ·rw [if_pos c4] at H
     have c4b0:decide (x5_1<(l0.length:Int))=true:=decide_eq_true c4
     clear c4
     by_cases c5:0≤x5_1
     ·rw [if_pos c5] at H
      have c5b0:decide (0≤x5_1)=true:=decide_eq_true c5
      clear c5
      by_cases c6:x5_1<(l1.length:Int)
      ·rw [if_pos c6] at H
       have c6b0:decide (x5_1<(l1.length:Int))=true:=decide_eq_true c6
       clear c6
       by_cases c7:(!((((rd_T66 l0 x5_1).f0).toList)==(((rd_T66 l1 x5_1).f0).toList))||(!(((rd_T66 l0 x5_1).f1)==((rd_T66 l1 x5_1).f1))))=true
       ·rw [if_pos c7] at H
        have c7b0:(!((((rd_T66 l0 x5_1).f0).toList)==(((rd_T66 l1 x5_1).f0).toList))||(!(((rd_T66 l0 x5_1).f1)==((rd_T66 l1 x5_1).f1))))=true:=c7
        clear c7
        obtain rfl:=Option.some.inj H
        have p248:0≤(x5_1:Int):=of_decide_eq_true (by(with_reducible assumption))
        have q248:x5_1<(l0.length:Int):=of_decide_eq_true (by(with_reducible assumption))
        obtain⟨ad248,e248,hx248_0,hx248_1⟩:=at_T66 HR0.out x5_1 p248 q248
        cases e248
        replace p248:=eq_true p248
        replace q248:=eq_true q248
        have p249:0≤(x5_1:Int):=of_decide_eq_true (by(with_reducible assumption))
        have q249:x5_1<(l1.length:Int):=of_decide_eq_true (by(with_reducible assumption))
        obtain⟨ad249,e249,hx249_0,hx249_1⟩:=at_T66 HR1.out x5_1 p249 q249
        cases e249
        replace p249:=eq_true p249
        replace q249:=eq_true q249
        go_wp2
        repeat(go_quiet (fail);try go_wp2)
        go_ret
        exact⟨by rfl,by repeat(first|exact Drawn0.refl _|apply Drawn0.step)⟩
       ·rw [if_neg c7] at H
        have c7b0:(!((((rd_T66 l0 x5_1).f0).toList)==(((rd_T66 l1 x5_1).f0).toList))||(!(((rd_T66 l0 x5_1).f1)==((rd_T66 l1 x5_1).f1))))=false:=by simpa using c7
        clear c7
        have H':=Aside0.mk H
        clear H
        have p248:0≤(x5_1:Int):=of_decide_eq_true (by(with_reducible assumption))
        have q248:x5_1<(l0.length:Int):=of_decide_eq_true (by(with_reducible assumption))
        obtain⟨ad248,e248,hx248_0,hx248_1⟩:=at_T66 HR0.out x5_1 p248 q248
        cases e248
        replace p248:=eq_true p248
        replace q248:=eq_true q248
        have p249:0≤(x5_1:Int):=of_decide_eq_true (by(with_reducible assumption))
        have q249:x5_1<(l1.length:Int):=of_decide_eq_true (by(with_reducible assumption))
        obtain⟨ad249,e249,hx249_0,hx249_1⟩:=at_T66 HR1.out x5_1 p249 q249
        cases e249
        replace p249:=eq_true p249
        replace q249:=eq_true q249
        go_wp2
        repeat(go_quiet (fail);try go_wp2)
        go_roundg k1
        case measure=>have:=HK1.out;omega
        case rel=>exact⟨(wrap64 (x5_1+1)),(by rfl),H',⟨by have:=HK1.out;omega⟩,by repeat(first|exact Drawn0.refl _|apply Drawn0.step)⟩
      ·rw [if_neg c6] at H
       exact absurd H (by simp)
     ·rw [if_neg c5] at H
      exact absurd H (by simp)
    ·rw [if_neg c4] at H
     have c4b0:decide (x5_1<(l0.length:Int))=false:=decide_eq_false c4
     clear c4
     obtain rfl:=Option.some.inj H
     go_wp2
     go_ret
     exact⟨by rfl,by repeat(first|exact Drawn0.refl _|apply Drawn0.step)⟩
 ·rw [if_neg c3] at H
  have c3b0:((l0.length:Int)==(l1.length:Int))=false:=beq_eq_false_iff_ne.mpr c3
  have c3b1:((l0.length:Int) != (l1.length:Int))=true:=bne_iff_ne.mpr c3
  have c3b2:(l0.length==l1.length)=false:=by(simp at c3 ⊢;omega)
  obtain rfl:=Option.some.inj H
  go_enter Try.func33,Try.ntmps33
  go_wp2
  go_ret
  exact⟨by rfl,by repeat(exact Drawn0.refl _)⟩
end Go.Proofs.Ytfnbodjmmkjlcaa.H
end
section
namespace Go.Proofs.Ytfnbodjmmkjlcaa.H
open Go.RowKit Go.Proofs.YtfnbodjmmkjlcaaW.PrintWords Go.Proofs.YtfnbodjmmkjlcaaW.PrintLast Go.Proofs.YtfnbodjmmkjlcaaW.PrintMore
attribute [local go_sem] max2_int min2_int max_two min_two max_three min_three max_four min_four
set_option linter.unusedVariables false
set_option linter.unusedSimpArgs false
def jalousieref08_Same.l0:Nat→List (S47)→List (S47)→Int→Option (Bool)
 | 0,_,_,_=>none
 | k+1,x0,x1,x5=>if x5<(x0.length:Int) then (if 0≤x5 then (if x5<(x1.length:Int) then (if ((rd_T47 x0 x5).f0)=((rd_T47 x1 x5).f0) then ((jalousieref01_Same.f k ((rd_T47 x0 x5).f1) ((rd_T47 x1 x5).f1)).bind fun t254=>(if t254=true then (jalousieref08_Same.l0 k x0 x1 (wrap64 (x5+1))) else (some false))) else (some false)) else (none)) else (none)) else (some true)
def jalousieref08_Same.f (k:Nat) (l0:List (S47)) (l1:List (S47)):Option (Bool):=if (l0.length:Int)=(l1.length:Int) then (jalousieref08_Same.l0 k l0 l1 0) else (some false)
set_option maxHeartbeats 8000000 in
set_option maxRecDepth 100000 in
theorem jalousieref08_Same.calls (k:Nat) (A0:Option Addr) (c0:Nat) (l0:List (S47)) (A1:Option Addr) (c1:Nat) (l1:List (S47)) (r:Bool) (w:World) (hr0:Kd.C k47 w A0 l0.length l0) (hc0:l0.length≤c0) (hr1:Kd.C k47 w A1 l1.length l1) (hc1:l1.length≤c1) (h:jalousieref08_Same.f k l0 l1=some r):
  Calls Try.prog 20 #[.slice A0 l0.length c0, .slice A1 l1.length c1] w fun e w'=>e= .returned (.bool r)∧Drawn0 w w':=by
 have HR0:=Aside0.mk hr0
 have HC0:=Aside0.mk hc0
 clear hr0 hc0
 have HR1:=Aside0.mk hr1
 have HC1:=Aside0.mk hc1
 clear hr1 hc1
 have H:(if (l0.length:Int)=(l1.length:Int) then (jalousieref08_Same.l0 k l0 l1 0) else (some false))=some r:=h
 clear h
 by_cases c3:(l0.length:Int)=(l1.length:Int)
 ·rw [if_pos c3] at H
  have c3b0:((l0.length:Int)==(l1.length:Int))=true:=beq_iff_eq.mpr c3
  have c3b1:((l0.length:Int) != (l1.length:Int))=false:=bne_eq_false_iff_eq.mpr c3
  have c3b2:(l0.length==l1.length)=true:=by(simp at c3 ⊢;omega)
  clear c3
  have H':=Aside0.mk H
  clear H
  go_enter Try.func20,Try.ntmps20
  go_wp2
  go_loopg [5] k (fun kq v5 w'=> ∃(x5_1:Int),v5= .int .i64 x5_1∧Aside0 (jalousieref08_Same.l0 kq l0 l1 x5_1=some r)∧Aside0 (kq≤k)∧Drawn0 w w')
  case atStart=>exact⟨(0),(by rfl),H',⟨Nat.le_refl _⟩,by repeat(exact Drawn0.refl _)⟩
  case round=>
   clear H'
   try clear c3b0
   try clear c3b1
   try clear c3b2
   obtain⟨x5_1,rfl,HA,HK1,⟨m1,rfl⟩⟩:=hrel
   cases gk with
   | zero=>exact absurd HA.out (by simp [jalousieref08_Same.l0])
   | succ k1=>
    have H:=HA.out
    clear HA
    simp only [jalousieref08_Same.l0] at H
    by_cases c4:x5_1<(l0.length:Int)
    ·rw [if_pos c4] at H
     have c4b0:decide (x5_1<(l0.length:Int))=true:=decide_eq_true c4
     clear c4
     by_cases c5:0≤x5_1
     ·rw [if_pos c5] at H
      have c5b0:decide (0≤x5_1)=true:=decide_eq_true c5
      clear c5
      by_cases c6:x5_1<(l1.length:Int)
      ·rw [if_pos c6] at H
       have c6b0:decide (x5_1<(l1.length:Int))=true:=decide_eq_true c6
       clear c6
       by_cases c7:((rd_T47 l0 x5_1).f0)=((rd_T47 l1 x5_1).f0)
       ·rw [if_pos c7] at H
        have c7b0:(((rd_T47 l0 x5_1).f0)==((rd_T47 l1 x5_1).f0))=true:=beq_iff_eq.mpr c7
        have c7b1:(((rd_T47 l0 x5_1).f0) != ((rd_T47 l1 x5_1).f0))=false:=bne_eq_false_iff_eq.mpr c7
        clear c7
        replace H:=Option.bind_eq_some_iff.mp H
        obtain⟨t254,A80,H⟩:=H
        replace H:(if t254=true then (jalousieref08_Same.l0 k1 l0 l1 (wrap64 (x5_1+1))) else (some false))=some r:=H
        have A8:=Aside0.mk A80
        clear A80
        by_cases c9:t254=true
        ·subst c9
         have H1:(jalousieref08_Same.l0 k1 l0 l1 (wrap64 (x5_1+1)))=some r:=by rw [if_pos rfl] at H;exact H
         clear H
         have H:=H1
         clear H1
         have H':=Aside0.mk H
         clear H
         have p250:0≤(x5_1:Int):=of_decide_eq_true (by(with_reducible assumption))
         have q250:x5_1<(l0.length:Int):=of_decide_eq_true (by(with_reducible assumption))
         obtain⟨ad250,A250_1,c250_1,e250,hx250_0,hx250_1,hl250_1,hi250_1⟩:=at_T47 HR0.out x5_1 p250 q250
         cases e250
         have HR250_1:=Aside0.mk hi250_1
         have HC250_1:=Aside0.mk hl250_1
         clear hi250_1 hl250_1
         replace p250:=eq_true p250
         replace q250:=eq_true q250
         have p251:0≤(x5_1:Int):=of_decide_eq_true (by(with_reducible assumption))
         have q251:x5_1<(l1.length:Int):=of_decide_eq_true (by(with_reducible assumption))
         obtain⟨ad251,A251_1,c251_1,e251,hx251_0,hx251_1,hl251_1,hi251_1⟩:=at_T47 HR1.out x5_1 p251 q251
         cases e251
         have HR251_1:=Aside0.mk hi251_1
         have HC251_1:=Aside0.mk hl251_1
         clear hi251_1 hl251_1
         replace p251:=eq_true p251
         replace q251:=eq_true q251
         have p252:0≤(x5_1:Int):=of_decide_eq_true (by(with_reducible assumption))
         have q252:x5_1<(l0.length:Int):=of_decide_eq_true (by(with_reducible assumption))
         obtain⟨ad252,A252_1,c252_1,e252,hx252_0,hx252_1,hl252_1,hi252_1⟩:=at_T47 HR0.out x5_1 p252 q252
         obtain rfl:ad250=ad252:=(by injection e252)
         have HR252_1:=Aside0.mk hi252_1
         have HC252_1:=Aside0.mk hl252_1
         clear hi252_1 hl252_1
         replace p252:=eq_true p252
         replace q252:=eq_true q252
         have ea_:=Option.some.inj (hx250_1.symm.trans hx252_1)
         injection ea_ with ea_ en_ ec_
         subst ea_
         subst ec_
         clear en_
         have p253:0≤(x5_1:Int):=of_decide_eq_true (by(with_reducible assumption))
         have q253:x5_1<(l1.length:Int):=of_decide_eq_true (by(with_reducible assumption))
         obtain⟨ad253,A253_1,c253_1,e253,hx253_0,hx253_1,hl253_1,hi253_1⟩:=at_T47 HR1.out x5_1 p253 q253
         obtain rfl:ad251=ad253:=(by injection e253)
         have HR253_1:=Aside0.mk hi253_1
         have HC253_1:=Aside0.mk hl253_1
         clear hi253_1 hl253_1
         replace p253:=eq_true p253
         replace q253:=eq_true q253
         have ea_:=Option.some.inj (hx251_1.symm.trans hx253_1)
         injection ea_ with ea_ en_ ec_
         subst ea_
         subst ec_
         clear en_
         go_wp2_with(fail)
         repeat(go_quiet ((go_at_call 33;(with_reducible refine(jalousieref01_Same.calls k1 _ _ ((rd_T47 l0 x5_1).f1) _ _ ((rd_T47 l1 x5_1).f1) true _ ?side1 ?side2 ?side3 ?side4 A8.out).mono ?_);(case side1=>repeat(exact HR252_1.out));(case side2=>exact HC252_1.out);(case side3=>repeat(exact HR253_1.out));(case side4=>exact HC253_1.out);rintro e w' ⟨rfl,⟨nd,rfl⟩⟩;(try exact⟨rfl,_,Eq.trans (World.drewN_drewN _ _ _) (congrArg (World.drewN _) (Nat.add_assoc _ _ _))⟩)));try go_wp2_with(fail))
         go_roundg k1
         case measure=>have:=HK1.out;omega
         case rel=>exact⟨(wrap64 (x5_1+1)),(by rfl),H',⟨by have:=HK1.out;omega⟩,by repeat(first|exact Drawn0.refl _|apply Drawn0.step)⟩
        ·replace c9:=Bool.eq_false_iff.mpr c9
         subst c9
         have H1:(some false)=some r:=by rw [if_neg (show ¬(false=true) by decide)] at H;exact H
         clear H
         have H:=H1
         clear H1
         obtain rfl:=Option.some.inj H
         have p250:0≤(x5_1:Int):=of_decide_eq_true (by(with_reducible assumption))
         have q250:x5_1<(l0.length:Int):=of_decide_eq_true (by(with_reducible assumption))
         obtain⟨ad250,A250_1,c250_1,e250,hx250_0,hx250_1,hl250_1,hi250_1⟩:=at_T47 HR0.out x5_1 p250 q250
         cases e250
         have HR250_1:=Aside0.mk hi250_1
         have HC250_1:=Aside0.mk hl250_1
         clear hi250_1 hl250_1
         replace p250:=eq_true p250
         replace q250:=eq_true q250
         have p251:0≤(x5_1:Int):=of_decide_eq_true (by(with_reducible assumption))
         have q251:x5_1<(l1.length:Int):=of_decide_eq_true (by(with_reducible assumption))
         obtain⟨ad251,A251_1,c251_1,e251,hx251_0,hx251_1,hl251_1,hi251_1⟩:=at_T47 HR1.out x5_1 p251 q251
         cases e251
         have HR251_1:=Aside0.mk hi251_1
         have HC251_1:=Aside0.mk hl251_1
         clear hi251_1 hl251_1
         replace p251:=eq_true p251
         replace q251:=eq_true q251
         have p252:0≤(x5_1:Int):=of_decide_eq_true (by(with_reducible assumption))
         have q252:x5_1<(l0.length:Int):=of_decide_eq_true (by(with_reducible assumption))
         obtain⟨ad252,A252_1,c252_1,e252,hx252_0,hx252_1,hl252_1,hi252_1⟩:=at_T47 HR0.out x5_1 p252 q252
         obtain rfl:ad250=ad252:=(by injection e252)
         have HR252_1:=Aside0.mk hi252_1
         have HC252_1:=Aside0.mk hl252_1
         clear hi252_1 hl252_1
         replace p252:=eq_true p252
         replace q252:=eq_true q252
         have ea_:=Option.some.inj (hx250_1.symm.trans hx252_1)
         injection ea_ with ea_ en_ ec_
         subst ea_
         subst ec_
         clear en_
         have p253:0≤(x5_1:Int):=of_decide_eq_true (by(with_reducible assumption))
         have q253:x5_1<(l1.length:Int):=of_decide_eq_true (by(with_reducible assumption))
         obtain⟨ad253,A253_1,c253_1,e253,hx253_0,hx253_1,hl253_1,hi253_1⟩:=at_T47 HR1.out x5_1 p253 q253
         obtain rfl:ad251=ad253:=(by injection e253)
         have HR253_1:=Aside0.mk hi253_1
         have HC253_1:=Aside0.mk hl253_1
         clear hi253_1 hl253_1
         replace p253:=eq_true p253
         replace q253:=eq_true q253
         have ea_:=Option.some.inj (hx251_1.symm.trans hx253_1)
         injection ea_ with ea_ en_ ec_
         subst ea_
         subst ec_
         clear en_
         go_wp2_with(fail)
         repeat(go_quiet ((go_at_call 33;(with_reducible refine(jalousieref01_Same.calls k1 _ _ ((rd_T47 l0 x5_1).f1) _ _ ((rd_T47 l1 x5_1).f1) false _ ?side1 ?side2 ?side3 ?side4 A8.out).mono ?_);(case side1=>repeat(exact HR252_1.out));(case side2=>exact HC252_1.out);(case side3=>repeat(exact HR253_1.out));(case side4=>exact HC253_1.out);rintro e w' ⟨rfl,⟨nd,rfl⟩⟩;(try exact⟨rfl,_,Eq.trans (World.drewN_drewN _ _ _) (congrArg (World.drewN _) (Nat.add_assoc _ _ _))⟩)));try go_wp2_with(fail))
         go_ret
         exact⟨by rfl,by repeat(first|exact Drawn0.refl _|apply Drawn0.step)⟩
       ·rw [if_neg c7] at H
        have c7b0:(((rd_T47 l0 x5_1).f0)==((rd_T47 l1 x5_1).f0))=false:=beq_eq_false_iff_ne.mpr c7
        have c7b1:(((rd_T47 l0 x5_1).f0) != ((rd_T47 l1 x5_1).f0))=true:=bne_iff_ne.mpr c7
        obtain rfl:=Option.some.inj H
        have p250:0≤(x5_1:Int):=of_decide_eq_true (by(with_reducible assumption))
        have q250:x5_1<(l0.length:Int):=of_decide_eq_true (by(with_reducible assumption))
        obtain⟨ad250,A250_1,c250_1,e250,hx250_0,hx250_1,hl250_1,hi250_1⟩:=at_T47 HR0.out x5_1 p250 q250
        cases e250
        have HR250_1:=Aside0.mk hi250_1
        have HC250_1:=Aside0.mk hl250_1
        clear hi250_1 hl250_1
        replace p250:=eq_true p250
        replace q250:=eq_true q250
        have p251:0≤(x5_1:Int):=of_decide_eq_true (by(with_reducible assumption))
        have q251:x5_1<(l1.length:Int):=of_decide_eq_true (by(with_reducible assumption))
        obtain⟨ad251,A251_1,c251_1,e251,hx251_0,hx251_1,hl251_1,hi251_1⟩:=at_T47 HR1.out x5_1 p251 q251
        cases e251
        have HR251_1:=Aside0.mk hi251_1
        have HC251_1:=Aside0.mk hl251_1
        clear hi251_1 hl251_1
        replace p251:=eq_true p251
        replace q251:=eq_true q251
        go_wp2
        repeat(go_quiet (fail);try go_wp2)
        go_ret
        exact⟨by rfl,by repeat(first|exact Drawn0.refl _|apply Drawn0.step)⟩
      ·rw [if_neg c6] at H
       exact absurd H (by simp)
     ·rw [if_neg c5] at H
      exact absurd H (by simp)
    ·rw [if_neg c4] at H
     have c4b0:decide (x5_1<(l0.length:Int))=false:=decide_eq_false c4
     clear c4
     obtain rfl:=Option.some.inj H
     go_wp2
     go_ret
     exact⟨by rfl,by repeat(first|exact Drawn0.refl _|apply Drawn0.step)⟩
 ·rw [if_neg c3] at H
  have c3b0:((l0.length:Int)==(l1.length:Int))=false:=beq_eq_false_iff_ne.mpr c3
  have c3b1:((l0.length:Int) != (l1.length:Int))=true:=bne_iff_ne.mpr c3
  have c3b2:(l0.length==l1.length)=false:=by(simp at c3 ⊢;omega)
  obtain rfl:=Option.some.inj H
  go_enter Try.func20,Try.ntmps20
  go_wp2
  go_ret
  exact⟨by rfl,by repeat(exact Drawn0.refl _)⟩
end Go.Proofs.Ytfnbodjmmkjlcaa.H
end
section
namespace Go.Proofs.Ytfnbodjmmkjlcaa.H
open Go.RowKit Go.Proofs.YtfnbodjmmkjlcaaW.PrintWords Go.Proofs.YtfnbodjmmkjlcaaW.PrintLast Go.Proofs.YtfnbodjmmkjlcaaW.PrintMore
attribute [local go_sem] max2_int min2_int max_two min_two max_three min_three max_four min_four
set_option linter.unusedVariables false
set_option linter.unusedSimpArgs false
def jalousieref09_Same.l0:Nat→List (S44)→List (S44)→Int→Option (Bool)
 | 0,_,_,_=>none
 | k+1,x0,x1,x5=>if x5<(x0.length:Int) then (if 0≤x5 then (if x5<(x1.length:Int) then (if ((rd_T44 x0 x5).f0)=((rd_T44 x1 x5).f0) then (if ((rd_T44 x0 x5).f1)=((rd_T44 x1 x5).f1) then (if ((rd_T44 x0 x5).f2)=((rd_T44 x1 x5).f2) then (if ((rd_T44 x0 x5).f3)=((rd_T44 x1 x5).f3) then ((jalousieref08_Same.f k ((rd_T44 x0 x5).f4) ((rd_T44 x1 x5).f4)).bind fun t265=>(if t265=true then (jalousieref09_Same.l0 k x0 x1 (wrap64 (x5+1))) else (some false))) else (some false)) else (some false)) else (some false)) else (some false)) else (none)) else (none)) else (some true)
def jalousieref09_Same.f (k:Nat) (l0:List (S44)) (l1:List (S44)):Option (Bool):=if (l0.length:Int)=(l1.length:Int) then (jalousieref09_Same.l0 k l0 l1 0) else (some false)
theorem jalousieref09_Same.told: ∀(k:Nat) (x0 x1:List (S44)) (i:Nat),x0.length≤9223372036854775807→jalousieref09_Same.l0 k x0 x1 (i:Int)=some true→ ∀j:Nat,i≤j→j<x0.length→j<x1.length∧(rd_T44 x0 (j:Int)).f0=(rd_T44 x1 (j:Int)).f0∧(rd_T44 x0 (j:Int)).f1=(rd_T44 x1 (j:Int)).f1∧(rd_T44 x0 (j:Int)).f2=(rd_T44 x1 (j:Int)).f2∧(rd_T44 x0 (j:Int)).f3=(rd_T44 x1 (j:Int)).f3∧ ∃kk,jalousieref08_Same.f kk (rd_T44 x0 (j:Int)).f4 (rd_T44 x1 (j:Int)).f4=some true
 | 0,_,_,_,_,h=>by simp [jalousieref09_Same.l0] at h
 | k+1,x0,x1,i,hs,h=>by
  intro j hij hj
  unfold jalousieref09_Same.l0 at h
  rw [if_pos (by omega),if_pos (by omega)] at h
  split at h
  case isFalse=>cases h
  split at h
  case isFalse=>cases h
  split at h
  case isFalse=>cases h
  split at h
  case isFalse=>cases h
  split at h
  case isFalse=>cases h
  rename_i h1 h2 h3 h4 h5
  obtain⟨r,hr,h⟩:=Option.bind_eq_some_iff.1 h
  split at h
  case isFalse=>cases h
  rename_i hr1
  subst hr1
  rcases Nat.lt_or_eq_of_le hij with h6|h6
  ·have hw:wrap64 ((i:Int)+1)=((i+1:Nat):Int):=by
    unfold wrap64
    omega
   rw [hw] at h
   exact jalousieref09_Same.told k x0 x1 (i+1) hs h j h6 hj
  ·subst h6
   exact⟨by omega,h2,h3,h4,h5,k,hr⟩
set_option maxHeartbeats 8000000 in
set_option maxRecDepth 100000 in
theorem jalousieref09_Same.calls (k:Nat) (A0:Option Addr) (c0:Nat) (l0:List (S44)) (A1:Option Addr) (c1:Nat) (l1:List (S44)) (r:Bool) (w:World) (hr0:Kd.C k44 w A0 l0.length l0) (hc0:l0.length≤c0) (hr1:Kd.C k44 w A1 l1.length l1) (hc1:l1.length≤c1) (h:jalousieref09_Same.f k l0 l1=some r) (HRT:Aside0 (r=true):=by first|exact⟨rfl⟩|assumption):
  Calls Try.prog 17 #[.slice A0 l0.length c0, .slice A1 l1.length c1] w fun e w'=>e= .returned (.bool r)∧Drawn0 w w':=by
 obtain rfl:=HRT.out
 unfold jalousieref09_Same.f at h
 by_cases hl:(l0.length:Int)=(l1.length:Int)
 case neg=>
  rw [if_neg hl] at h
  cases h
 rw [if_pos hl] at h
 have hs:l0.length≤9223372036854775807:=hr0.2.1
 have HT:=Aside0.mk (jalousieref09_Same.told k l0 l1 0 hs (by simpa using h))
 have HR0:=Aside0.mk hr0
 have HR1:=Aside0.mk hr1
 have HC0:=Aside0.mk hc0
 have HC1:=Aside0.mk hc1
 have HLL:Aside0 (l0.length=l1.length):=⟨by omega⟩
 have hl2:(((l0.length:Nat):Int) != ((l1.length:Nat):Int))=false:=bne_eq_false_iff_eq.mpr hl
 clear h hr0 hr1 hc0 hc1 hl HRT
 go_enter Try.func17,Try.ntmps17
 go_wp2
 go_loopw [5] (fun vi wr=> ∃i:Nat,i≤l0.length∧vi= .int .i64 (i:Int)∧Drawn0 w wr) (fun vi _=>l0.length-(intOf vi).toNat)
 case atStart=>exact⟨0,Nat.zero_le _,rfl,Drawn0.refl _⟩
 case round=>
  obtain⟨i,hi,rfl,hD⟩:=hrel
  have HD:=Aside0.mk hD
  clear hD
  by_cases hlt:i<l0.length
  ·obtain⟨hi1,e0,e1,e2,e3,kk,e4⟩:=HT.out i (Nat.zero_le _) hlt
   have hlt':decide ((i:Int)<(l0.length:Int))=true:=decide_eq_true (by omega)
   obtain⟨ad,A4,c4,rfl,hx0,hx1,hx2,hx3,hx4,hl4,hr4⟩:=at_T44 (Kd.C_below HR0.out HD.out.below) (i:Int) (by omega) (by omega)
   obtain⟨ae,B4,d4,rfl,hy0,hy1,hy2,hy3,hy4,hm4,hs4⟩:=at_T44 (Kd.C_below HR1.out HD.out.below) (i:Int) (by omega) (by omega)
   have hb0:((rd_T44 l0 (i:Int)).f0 != (rd_T44 l1 (i:Int)).f0)=false:=bne_eq_false_iff_eq.mpr e0
   have hb1:((rd_T44 l0 (i:Int)).f1 != (rd_T44 l1 (i:Int)).f1)=false:=bne_eq_false_iff_eq.mpr e1
   have hb2:((rd_T44 l0 (i:Int)).f2 != (rd_T44 l1 (i:Int)).f2)=false:=bne_eq_false_iff_eq.mpr e2
   have hb3:((rd_T44 l0 (i:Int)).f3 != (rd_T44 l1 (i:Int)).f3)=false:=bne_eq_false_iff_eq.mpr e3
   have H4:=Aside0.mk e4
   have HL4:=Aside0.mk hl4
   have HM4:=Aside0.mk hm4
   have HR4:=Aside0.mk hr4
   have HS4:=Aside0.mk hs4
   have hi2:((i:Int)<(l0.length:Int))=True:=eq_true (by omega)
   have hi3:((i:Int)<(l1.length:Int))=True:=eq_true (by omega)
   have HWi:Aside0 (wrap64 ((i:Int)+1)=((i+1:Nat):Int)):=⟨by unfold wrap64;omega⟩
   clear e0 e1 e2 e3 e4 hl4 hm4 hr4 hs4
   simp only [Int.toNat_natCast] at hx0 hx1 hx2 hx3 hx4 hy0 hy1 hy2 hy3 hy4
   go_wp2
   go_quiet ((go_at_call 20;exact Calls.quiet_of ((jalousieref08_Same.calls kk A4 c4 _ B4 d4 _ true _ (Kd.C_drewN HR4.out _) HL4.out (Kd.C_drewN HS4.out _) HM4.out H4.out).mono fun _ _ h_=>⟨h_.1,h_.2.out⟩)))
   go_wp2
   go_roundw
   case rel=>exact⟨i+1,by omega,by rfl,HD.out.step _⟩
   case measure=>
    simp only [intOf,Int.toNat_natCast]
    omega
  ·obtain rfl:i=l0.length:=by omega
   have hlt':decide ((l0.length:Int)<(l0.length:Int))=false:=decide_eq_false (by omega)
   go_wp2
   go_ret
   exact⟨rfl,HD.out⟩
end Go.Proofs.Ytfnbodjmmkjlcaa.H
end
