/-
  What the claim needs of the words, of the walks and of the plain proofs, in one row (2).
-/
import Derived.Test.YtfnbodjmmkjlcaaRows
import Derived.SizedLaws
import Derived.ChangeSlices
import Derived.OpenShut
import Derived.ShutString
import Derived.Test.YtfnbodjmmkjlcaaProg
import Derived.Below
import Derived.Deep.Draws
import Derived.Deep.AppendLies
import Derived.Maps.AppendAt
import Derived.OwnWalk
import Derived.Laws.BytesArg
import Derived.Laws.MakeOwn
import Derived.Laws.OwnMore
import Derived.Deep.OwnRows
import Derived.Tactics
import Derived.Lib.ConvBytes
import Derived.Laws.Slices
import Derived.WalkKit
import Derived.KernelRfl
import Derived.RowKit3
import Derived.Deep.LoopGhost
import Derived.Deep.QuietTactic
import Derived.BigQuiet
import Derived.WideLaws
import Derived.Deep.DeepCutAuto
import Derived.Deep.CutBlock
import Derived.Deep.RegionHeld3
import Derived.Laws.Rows
import Derived.Lib.AppendStr
import Derived.ArgAppend
import Derived.Laws.IdiomCopy
import Derived.OrdersHeld
import Derived.Laws.BitsLemmas
import Derived.RowKit
import Derived.WalkLawsBesides
import Derived.WalkSpells
import Derived.RangeFuncNested
import Derived.RangeFuncBound
import Derived.RangeFuncCalls
import Derived.RangeFuncLeaves
import Derived.RangeFuncBox
import Derived.RangeFuncMany
import Derived.Shelf.Abstract
import Derived.OwnWalkIn
import Derived.TacticsInMore
import Derived.LoopNIn
import Derived.LoopIn
import Derived.Test.YtfnbodjmmkjlcaaZ0
import Derived.Test.YtfnbodjmmkjlcaaZ1
section
namespace Go.Proofs.Ytfnbodjmmkjlcaa.Sq
open Go.RowKit Go.Proofs.YtfnbodjmmkjlcaaW.PrintWords Go.Proofs.YtfnbodjmmkjlcaaW.PrintLast
def bl (n m:Nat):Array Bool:=((List.range n).map fun i=>m.testBit i).toArray
theorem pu {P:Program} {ops:Array Oper} {Q:Exit→Act→World→Prop} {md:Region.Mode} {S:World→Prop} {ds:List Nat} {oi:Oper} {v:Value} {fuel:Nat} {l:Array Bool} {a:Act} {w:World} (i N:Nat) (l':Array Bool)
    (hc:anyB md ops l l' i=true) (hi:ops[i]? =some oi) (hN:oi.dst=some N)
    (hQ: ∀c a w,Q (.panic c) (a.put oi.dst v) w→Q (.panic c) a w) (hw:Region.wanted oi (yielded ops a.tmps)=true) (hy: ∀w,(execOp a.eval oi).run P w= .ok (.value v) w) {a':Act} (ha:a.put (some N) v=a')
    (h:wpAnyLast P md ops Q S ds fuel l' a' w):wpAnyLast P md ops Q S ds (fuel+1) l a w:=
  pure_ (N:=some N) l' hi hN hc hQ (Or.inl ⟨hw,hy⟩) ha h
end Go.Proofs.Ytfnbodjmmkjlcaa.Sq
namespace Go.Proofs.Ytfnbodjmmkjlcaa
open Go.RowKit Go.Proofs.YtfnbodjmmkjlcaaW.PrintWords Go.Proofs.YtfnbodjmmkjlcaaW.PrintLast
theorem zb1 {w:World} {g:Nat} {o:Obj} (h:w.heap[g]? =some o) (n:Nat):(w.drewN n).heap[g]? =some o:=blk_drewN h n
theorem zb2 {w:World} {g:Nat} {o:Obj} (h:w.heap[g]? =some o):w.drew.heap[g]? =some o:=blk_drew h
theorem zb3 {w:World} {g:Nat} {o:Obj} (h:w.heap[g]? =some o) (o':Obj):(w.alloc o').heap[g]? =some o:=blk_alloc h o'
theorem zr1 {α:Type} {d:Kd α} {e:Nat} {w:World} {base:Nat} {ok:Nat→Prop} {v:Value} {xs:List α} (h:d.R e w base ok v xs) (o:Obj):d.R e (w.alloc o) base ok v xs:=Kd.R_alloc h o
theorem zr2 {α:Type} {d:Kd α} {e:Nat} {w:World} {base:Nat} {ok:Nat→Prop} {v:Value} {xs:List α} (h:d.R e w base ok v xs) (m:Nat):d.R e (w.drewN m) base ok v xs:=Kd.R_drewN h m
theorem zr3 {α:Type} {d:Kd α} {e:Nat} {w:World} {base:Nat} {ok:Nat→Prop} {v:Value} {xs:List α} (h:d.R e w base ok v xs):d.R e w.drew base ok v xs:=Kd.R_drew h
theorem zp1 {α:Type} (l:List α) (i:Nat) (a:α):l.toArray.setIfInBounds i a=(l.set i a).toArray:=List.setIfInBounds_toArray l i a
theorem zp2 {α:Type} {x:α} {xs:List α} {a:α}:(x::xs).set 0 a=a::xs:=rfl
theorem zp3 {α:Type} {x:α} {xs:List α} {i:Nat} {a:α}:(x::xs).set (i+1) a=x::xs.set i a:=rfl
theorem zp4 (n:Int):IntKind.i64.wrap n=wrap64 n:=i64_w n
theorem zp5 (n:Int):IntKind.i32.wrap n=wrap32 n:=i32_w n
end Go.Proofs.Ytfnbodjmmkjlcaa
end
section
namespace Go.Proofs.Ytfnbodjmmkjlcaa.Opening
open Go.RowKit Go.ChangeShapes Go.WideShapes Go.Proofs.YtfnbodjmmkjlcaaW.PrintWords
set_option linter.unusedVariables false
set_option linter.unusedSimpArgs false
theorem sum_le {H α:Type} (B:α→Nat): ∀(xs:List α) (ds:List (DataW H)),xs.length=ds.length→(∀(i:Nat) (x:α) (d:DataW H),xs[i]? =some x→ds[i]? =some d→B x≤Rows.uptoBulk d)→(xs.map B).sum≤Rows.uptoBulkAll ds
  | [],_,_,_=>Nat.zero_le _
  | x::xs,[],h,_=>by simp at h
  | x::xs,d::ds,h,hp=>by
    have h0:=hp 0 x d rfl rfl
    have h1:=sum_le B xs ds (by simpa using h) (fun i y e hy he=>hp (i+1) y e (by simpa using hy) (by simpa using he))
    simp only [List.map_cons,List.sum_cons,Rows.uptoBulkAll]
    omega
def Opn {α:Type} (P:Program) (t:TypeId) (k:Kd α) (S Z:α→Prop) (B:α→Nat):Prop:=
  ∀(H:Type) (enc:TypeId×Value→H) (W:World) (base fuel:Nat) (cs:List Value) (d:DataW H) (p:List MemPlace),
    DataW.trod enc P W base (fun _=>true) true fuel t cs=some (d,p)→ ∃x,k.K W x cs∧S x∧((∀n∈d.weights P t,n≤reachBytes)→Z x)∧B x≤Rows.uptoBulk d
theorem opn_bool {P:Program} {t:TypeId} (hu:P.underlying t=some .bool):Opn P t Kd.bool (fun _=>True) (fun _=>True) (fun _=>1):=by
  intro H enc W base fuel cs d p h
  obtain⟨n,rfl,e⟩:=DataW.trod_bool hu h
  obtain⟨rfl,rfl⟩:=Prod.mk.inj e
  exact⟨n,rfl,trivial,fun _=>trivial,by simp [Rows.uptoBulk]⟩
theorem opn_string {P:Program} {t:TypeId} (hu:P.underlying t=some .string):Opn P t Kd.string (fun s=>s.size≤9223372036854775807) (fun s=>s.size≤140737488351232) (fun s=>s.size+1):=by
  intro H enc W base fuel cs d p h
  obtain⟨s,rfl,e,hs⟩:=DataW.trod_string hu h
  obtain⟨rfl,rfl⟩:=Prod.mk.inj e
  refine⟨s,rfl,hs,fun hz=>?_,?_⟩
  · have:=hz s.data.toList.length (by simp [DataW.weights])
    rw [data_length] at this
    exact this
  · simp only [Rows.uptoBulk]
    rw [data_length]
    exact Nat.le_refl _
theorem choose_list {α:Type} (Q:Nat→α→Prop): ∀n,(∀i,i<n→ ∃x,Q i x)→ ∃xs:List α,xs.length=n∧ ∀i x,xs[i]? =some x→Q i x
  | 0,_=>⟨[],rfl,fun i x h=>by simp at h⟩
  | n+1,h=>by
    obtain⟨xs,hl,hx⟩:=choose_list Q n (fun i hi=>h i (by omega))
    obtain⟨y,hy⟩:=h n (by omega)
    refine⟨xs++ [y],by simp [hl],fun i x hi=>?_⟩
    rcases Nat.lt_or_ge i xs.length with h1|h1
    · rw [List.getElem?_append_left h1] at hi
      exact hx i x hi
    · have h2:i=n:=by
        have:=(List.getElem?_eq_some_iff.1 hi).1
        simp at this
        omega
      subst h2
      rw [List.getElem?_append_right (by omega),hl,Nat.sub_self] at hi
      have:y=x:=by simpa using hi
      subst this
      exact hy
theorem weights_all {H:Type} {P:Program} {e:TypeId}: ∀ {l:List (DataW H)} {d:DataW H},d∈l→ ∀n∈d.weights P e,n∈DataW.weightsAll P e l
  | x::l,d,h,n,hn=>by
    simp only [DataW.weightsAll,List.mem_append]
    rcases List.mem_cons.1 h with h|h
    · subst h
      exact .inl hn
    · exact .inr (weights_all h n hn)
theorem opn_slice {α:Type} {P:Program} {t e:TypeId} {k:Kd α} {S Z:α→Prop} {B:α→Nat} (bytes:Nat) (ht:P.underlying t=some (.slice e)) (hc:P.cellsOf e=k.sz) (hb:P.bytesOf e=bytes) (h:Opn P e k S Z B):
    Opn P t (Kd.slice e k) (fun l=> ∀x∈l,S x) (fun l=>l.length*bytes≤140737488351232∧ ∀x∈l,Z x) (fun l=>(l.map B).sum+1):=by
  intro H enc W base fuel cs d p hd
  rcases DataW.trod_slice ht hd with ⟨rfl,e0⟩|⟨a,len,cap,elems,rest,n,_,rfl,e0,hbs,hl,hm,hlen,hel,hsp,hns⟩
  · obtain⟨rfl,rfl⟩:=Prod.mk.inj e0
    exact⟨[],⟨none,0,rfl,Nat.le_refl _,rfl,by simp,fun h=>absurd h (by simp)⟩,by simp,fun _=>⟨by simp,by simp⟩,by simp [Rows.uptoBulk]⟩
  · obtain⟨rfl,rfl⟩:=Prod.mk.inj e0
    have each: ∀i,i<len→ ∃x, ∃y c,elems[i]? =some y∧W.cells? base (a.add (i*k.sz)) k.sz=some c∧k.K W x c∧S x∧((∀n∈y.1.weights P e,n≤reachBytes)→Z x)∧B x≤Rows.uptoBulk y.1:=by
      intro i hi
      have h1:=hel i hi
      obtain⟨y,hy⟩: ∃y,elems[i]? =some y:=⟨elems[i]'(by omega),List.getElem?_eq_getElem _⟩
      rw [hy,hc] at h1
      obtain⟨c,hcs,hy'⟩:=Option.bind_eq_some_iff.1 h1
      obtain⟨x,hK,hS,hZ,hB⟩:=h H enc W base n c y.1 y.2 hy'
      exact⟨x,y,c,hy,hcs,hK,hS,hZ,hB⟩
    obtain⟨xs,hxl,hx⟩:=choose_list _ len each
    subst hxl
    refine⟨xs,⟨some a,cap,rfl,hl,rfl,?_,fun _=>⟨a,rfl,fun j q hj=>?_⟩⟩,fun x hm=>?_,fun hz=>⟨?_,fun x hm=>?_⟩,?_⟩
    · simp only [maxLen] at hm
      omega
    · obtain⟨y,c,hy,hcs,hK,_⟩:=hx j q hj
      refine⟨c,k.K_len hK,hK,fun i u hu=>?_⟩
      obtain⟨hcl,hcell⟩:=World.cells?_some hcs
      have hi:i<k.sz:=by
        have:=(List.getElem?_eq_some_iff.1 hu).1
        rw [k.K_len hK] at this
        exact this
      have ha:(a.add (j*k.sz)).add i=a.add (j*k.sz+i):=by
        unfold Addr.add
        by_cases h1:j*k.sz=0<;>by_cases h2:i=0<;>simp [h1,h2,Nat.add_assoc]
      rw [← ha]
      first
      | exact(hcell.2 i hi).trans hu
      | exact(hcell i hi).trans hu
      | simpa [hu] using hcell i hi
    · obtain⟨i,hi⟩:=List.getElem?_of_mem hm
      obtain⟨_,_,_,_,_,hS,_⟩:=hx i x hi
      exact hS
    · have:=hz ((elems.length+rest.length)*P.bytesOf e) (by simp [DataW.weights,ht])
      rw [hb] at this
      have h2:xs.length*bytes≤(elems.length+rest.length)*bytes:=Nat.mul_le_mul_right _ (by omega)
      have h3:reachBytes=140737488351232:=rfl
      omega
    · obtain⟨i,hi⟩:=List.getElem?_of_mem hm
      obtain⟨y,_,hy,_,_,_,hZ,_⟩:=hx i x hi
      refine hZ fun n hn=>hz n ?_
      simp only [DataW.weights,ht,List.mem_cons,List.mem_append]
      exact .inr (.inl (weights_all (List.mem_map_of_mem (List.mem_of_getElem? hy)) n hn))
    · have:=sum_le B xs (elems.map (·.1)) (by simp;omega) (fun i x d hxi hdi=>by
        obtain⟨y,_,hy,_,_,_,_,hB⟩:=hx i x hxi
        rw [List.getElem?_map,hy] at hdi
        have:y.1=d:=by simpa using hdi
        subst this
        exact hB)
      simp only [Rows.uptoBulk]
      omega
def OpnFs {α:Type} (P:Program) (fs:List Field) (off:Nat) (k:Kd α) (S Z:α→Prop) (B:α→Nat):Prop:=
  ∀(H:Type) (enc:TypeId×Value→H) (W:World) (base fuel:Nat) (cs:List Value) (xs:List (DataW H×List MemPlace)),cs.length=off+k.sz→
    (fs.mapM fun f=>DataW.trod enc P W base (fun _=>true) true fuel f.type ((cs.drop f.offset).take (P.cellsOf f.type)))=some xs→
    ∃x,k.K W x (cs.drop off)∧S x∧((∀n∈DataW.weightsEach P (fs.map (·.type)) (xs.map (·.1)),n≤reachBytes)→Z x)∧B x≤Rows.uptoBulkAll (xs.map (·.1))
theorem opnFs_last {α:Type} {P:Program} {f:Field} {off:Nat} {k:Kd α} {S Z:α→Prop} {B:α→Nat} (ho:f.offset=off) (hc:P.cellsOf f.type=k.sz) (h:Opn P f.type k S Z B):OpnFs P [f] off k S Z B:=by
  intro H enc W base fuel cs xs hl hm
  simp only [List.mapM_cons,List.mapM_nil,Option.pure_def,Option.bind_eq_bind,Option.bind_some] at hm
  obtain⟨y,hy,e⟩:=Option.bind_eq_some_iff.1 hm
  obtain rfl: [y]=xs:=by simpa using e
  rw [ho,hc,List.take_of_length_le (by rw [List.length_drop];omega)] at hy
  obtain⟨x,hK,hS,hZ,hB⟩:=h H enc W base fuel _ y.1 y.2 hy
  refine⟨x,hK,hS,fun hz=>hZ fun n hn=>hz n ?_,?_⟩
  · simp [DataW.weightsEach,hn]
  · simp only [List.map_cons,List.map_nil,Rows.uptoBulkAll]
    omega
theorem opnFs_cons {α β:Type} {P:Program} {f:Field} {fs:List Field} {off:Nat} {k0:Kd α} {k1:Kd β} {S0 Z0:α→Prop} {B0:α→Nat} {S1 Z1:β→Prop} {B1:β→Nat}
    (ho:f.offset=off) (hc:P.cellsOf f.type=k0.sz) (h0:Opn P f.type k0 S0 Z0 B0) (h1:OpnFs P fs (off+k0.sz) k1 S1 Z1 B1):
    OpnFs P (f::fs) off (Kd.pair k0 k1) (fun x=>S0 x.1∧S1 x.2) (fun x=>Z0 x.1∧Z1 x.2) (fun x=>B0 x.1+B1 x.2):=by
  intro H enc W base fuel cs xs hl hm
  have hl':cs.length=off+(k0.sz+k1.sz):=hl
  simp only [List.mapM_cons,Option.pure_def,Option.bind_eq_bind] at hm
  obtain⟨y,hy,e⟩:=Option.bind_eq_some_iff.1 hm
  obtain⟨ys,hys,e⟩:=Option.bind_eq_some_iff.1 e
  obtain rfl:y::ys=xs:=by simpa using e
  rw [ho,hc] at hy
  obtain⟨x,hK,hS,hZ,hB⟩:=h0 H enc W base fuel _ y.1 y.2 hy
  obtain⟨z,hK1,hS1,hZ1,hB1⟩:=h1 H enc W base fuel cs ys (by omega) hys
  refine⟨(x,z),⟨_,_,?_,hK,hK1⟩,⟨hS,hS1⟩,fun hz=>⟨hZ fun n hn=>hz n ?_,hZ1 fun n hn=>hz n ?_⟩,?_⟩
  · rw [← List.drop_drop]
    exact(List.take_append_drop _ _).symm
  · simp [DataW.weightsEach,hn]
  · simp only [List.map_cons,DataW.weightsEach,List.mem_append]
    exact .inr hn
  · simp only [List.map_cons,Rows.uptoBulkAll]
    omega
theorem opn_struct {α β:Type} {P:Program} {t:TypeId} {fs:Array Field} {k:Kd α} {S Z:α→Prop} {B:α→Nat} (f:β→α) (g:α→β) (hg: ∀x,f (g x)=x) (ht:P.underlying t=some (.struct fs)) (hc:P.cellsOf t=k.sz) (h:OpnFs P fs.toList 0 k S Z B):
    Opn P t (Kd.iso k f) (fun y=>S (f y)) (fun y=>Z (f y)) (fun y=>B (f y)+1):=by
  intro H enc W base fuel cs d p hd
  cases fuel with
  | zero=>simp [DataW.trod] at hd
  | succ fuel=>
    have hd':(if cs.length=P.cellsOf t then (fs.toList.mapM fun f=>DataW.trod enc P W base (fun _=>true) true fuel f.type ((cs.drop f.offset).take (P.cellsOf f.type))).map fun xs=>((.agg (xs.map (·.1)):DataW H),xs.flatMap (·.2)) else none)=some (d,p):=by
      unfold DataW.trod at hd
      simp only [ht] at hd
      exact hd
    by_cases hl:cs.length=P.cellsOf t
    · rw [if_pos hl] at hd'
      obtain⟨xs,hxs,e⟩:=Option.map_eq_some_iff.1 hd'
      obtain⟨rfl,rfl⟩:=Prod.mk.inj e
      obtain⟨x,hK,hS,hZ,hB⟩:=h H enc W base fuel cs xs (by omega) hxs
      refine⟨g x,?_,?_,?_,?_⟩
      · show k.K W (f (g x)) cs
        rw [hg]
        exact hK
      · show S (f (g x))
        rw [hg]
        exact hS
      · intro hz
        show Z (f (g x))
        rw [hg]
        refine hZ fun n hn=>hz n ?_
        simp only [DataW.weights,ht]
        exact hn
      · show B (f (g x))+1≤_
        rw [hg]
        simp only [Rows.uptoBulk]
        omega
    · rw [if_neg hl] at hd'
      cases hd'
variable {P:Program} {H:Type} {enc:TypeId×Value→H} {W:World} {r:Reach} {b0 base:Nat} {t:TypeId} {v:Value} {d:DataW H} {p:List MemPlace}
theorem open_sl {α:Type} {e:TypeId} {k:Kd α} {S Z:List α→Prop} {B:List α→Nat} (ho:Opn P t (Kd.slice e k) S Z B) (ht:P.underlying t=some (.slice e)) (hv:Value.okWide P W r b0 t v) (h:DataW.Trod enc P W base (fun _=>true) true t v d p):
    ∃(A:Option Addr) (c:Nat) (l:List α),v= .slice A l.length c∧l.length≤c∧Kd.C k W A l.length l∧S l∧((∀n∈d.weights P t,n≤reachBytes)→Z l)∧B l≤Rows.uptoBulk d:=by
  obtain⟨a,len,cap,rfl⟩:=okWide_slice ht hv
  obtain⟨fuel,hf⟩:=h
  obtain⟨x,⟨A,c,hcs,hl,hC⟩,hS,hZ,hB⟩:=ho H enc W base fuel _ d p hf
  simp [Value.cells] at hcs
  obtain⟨rfl,rfl,rfl⟩:=hcs
  exact⟨_,_,x,rfl,hl,hC,hS,hZ,hB⟩
end Go.Proofs.Ytfnbodjmmkjlcaa.Opening
end
section
namespace Go.Proofs.Ytfnbodjmmkjlcaa.H
open Go.RowKit Go.Proofs.YtfnbodjmmkjlcaaW.PrintWords Go.Proofs.YtfnbodjmmkjlcaaW.PrintLast Go.Proofs.YtfnbodjmmkjlcaaW.PrintMore
attribute [local go_sem] max2_int min2_int max_two min_two max_three min_three max_four min_four
set_option linter.unusedVariables false
set_option linter.unusedSimpArgs false
def errW:Option Int→Value
 | none=> .nilIface
 | some c=> .iface 0 (.int .i64 c)
theorem errW_none:errW none= .nilIface:=rfl
theorem errW_some (c:Int):errW (some c)= .iface 0 (.int .i64 c):=rfl
theorem info3:(Try.prog.info? 3).map (fun i=>(i.zero,i.size,i.bytes))=some (some (.int .i64 0),1,8):=by kernel_rfl
theorem info44:(Try.prog.info? 44).map (fun i=>(i.zero,i.size,i.bytes))=some (some (.agg #[(.int .i64 0),(.int .i64 0),(.int .i64 0),(.int .i64 0),(.slice none 0 0)]),5,56):=by kernel_rfl
theorem info45:(Try.prog.info? 45).map (fun i=>(i.zero,i.size,i.bytes))=some (some (.int .i64 0),1,8):=by kernel_rfl
theorem info47:(Try.prog.info? 47).map (fun i=>(i.zero,i.size,i.bytes))=some (some (.agg #[(.int .i64 0),(.slice none 0 0)]),2,32):=by kernel_rfl
theorem info53:(Try.prog.info? 53).map (fun i=>(i.zero,i.size,i.bytes))=some (some (.slice none 0 0),1,24):=by kernel_rfl
theorem info64:(Try.prog.info? 64).map (fun i=>(i.zero,i.size,i.bytes))=some (some (.agg #[(.int .i64 0),(.int .i64 0)]),2,16):=by kernel_rfl
theorem info66:(Try.prog.info? 66).map (fun i=>(i.zero,i.size,i.bytes))=some (some (.agg #[(.string ⟨#[]⟩),(.bool false)]),2,24):=by kernel_rfl
structure S66 where
 f0:ByteArray
 f1:Bool
def z66:S66:=⟨(⟨#[]⟩:ByteArray),false⟩
def k66:Kd S66:=Kd.iso (Kd.pair Kd.string Kd.bool) (fun x:S66=>(x.f0,x.f1))
theorem k66_heap:Kd.Heap k66:=Kd.heap_iso _ (Kd.heap_pair Kd.heap_string Kd.heap_bool)
theorem k66_open {w:World} {x:S66} {cs:List Value} (h:k66.K w x cs):cs= [.string x.f0, .bool x.f1]:=by
 obtain⟨_,_,rfl,rfl,rfl⟩:=h
 exact rfl
theorem k66_mkM (w:World) (base:Nat) (ok:Nat→Prop) (x:S66)  :k66.M w base ok x [.string x.f0, .bool x.f1]:=⟨[.string x.f0],[.bool x.f1],rfl,rfl,rfl⟩
def rd_T66 (xs:List S66) (i:Int):S66:=xs.getD i.toNat z66
theorem at_T66 {w:World} {A:Option Addr} {n:Nat} {xs:List S66} (h:Kd.C k66 w A n xs) (i:Int) (h0:0≤i) (h1:i<n): ∃ad ,A=some ad∧w.cell? (ad.add (i.toNat*2))=some (.string (rd_T66 xs i).f0)∧w.cell? ⟨(ad.add (i.toNat*2)).block,(ad.add (i.toNat*2)).off+1,none⟩=some (.bool (rd_T66 xs i).f1):=by
 obtain⟨ad,c,e,_,hK,hc0⟩:=Kd.C_get h z66 i h0 h1
 have hc: ∀j u,c[j]? =some u→w.cell? (ad.add (i.toNat*2+j))=some u:=hc0
 obtain rfl:=k66_open hK
 exact⟨ad,e,hc 0 _ rfl,by rw [← add_field _ _ 1 (by omega)];exact hc 1 _ rfl⟩
def rd_L4 (xs:List (List S66)) (i:Int):(List S66):=xs.getD i.toNat ([]:List S66)
theorem at_L4 {w:World} {A:Option Addr} {n:Nat} {xs:List (List S66)} (h:Kd.C (Kd.slice 66 k66) w A n xs) (i:Int) (h0:0≤i) (h1:i<n): ∃ad A0 c0,A=some ad∧w.cell? (ad.add i.toNat)=some (.slice A0 (rd_L4 xs i).length c0)∧(rd_L4 xs i).length≤c0∧k66.C w A0 (rd_L4 xs i).length (rd_L4 xs i):=by
 obtain⟨ad,c,e,_,hK,hc0⟩:=Kd.C_get h ([]:List S66) i h0 h1
 have hc: ∀j u,c[j]? =some u→w.cell? (ad.add (i.toNat*1+j))=some u:=hc0
 obtain⟨A0,c0,rfl,l0,g0⟩:=hK
 exact⟨ad,A0,c0,e,by have hq:=hc 0 _ rfl;rwa [Nat.mul_one,Nat.add_zero] at hq,l0,g0⟩
structure S47 where
 f0:Int
 f1:(List S66)
def z47:S47:=⟨(0:Int),([]:List S66)⟩
def k47:Kd S47:=Kd.iso (Kd.pair (Kd.int .i64) (Kd.slice 66 k66)) (fun x:S47=>(x.f0,x.f1))
theorem k47_heap:Kd.Heap k47:=Kd.heap_iso _ (Kd.heap_pair (Kd.heap_int .i64) (Kd.heap_slice 66 k66_heap))
theorem k47_open {w:World} {x:S47} {cs:List Value} (h:k47.K w x cs): ∃A1 c1,cs= [.int .i64 x.f0, .slice A1 x.f1.length c1]∧x.f1.length≤c1∧k66.C w A1 x.f1.length x.f1:=by
 obtain⟨_,_,rfl,rfl,⟨A1,c1,rfl,l1,g1⟩⟩:=h
 exact⟨A1,c1,rfl,l1,g1⟩
theorem k47_openM {w:World} {base:Nat} {ok:Nat→Prop} {x:S47} {cs:List Value} (h:k47.M w base ok x cs): ∃v1,cs= [.int .i64 x.f0,v1]∧k66.R 66 w base ok v1 x.f1:=by
 obtain⟨_,_,rfl,rfl,⟨v1,rfl,g1⟩⟩:=h
 exact⟨v1,rfl,g1⟩
theorem k47_mk (w:World) (x:S47) {A1:Option Addr} {c1:Nat} (l1:x.f1.length≤c1) (g1:k66.C w A1 x.f1.length x.f1):k47.K w x [.int .i64 x.f0, .slice A1 x.f1.length c1]:=⟨[.int .i64 x.f0],[.slice A1 x.f1.length c1],rfl,rfl,⟨A1,c1,rfl,l1,g1⟩⟩
theorem k47_mkM (w:World) (base:Nat) (ok:Nat→Prop) (x:S47) {v1:Value} (g1:k66.R 66 w base ok v1 x.f1):k47.M w base ok x [.int .i64 x.f0,v1]:=⟨[.int .i64 x.f0],[v1],rfl,rfl,⟨v1,rfl,g1⟩⟩
theorem k47_openF {W:World} {ok:Nat→Prop} {x:S47} {cs:List Value} (h:Kd.FK k47 W ok x cs): ∃A1 c1,cs= [.int .i64 x.f0, .slice A1 x.f1.length c1]∧x.f1.length≤c1∧Kd.F k66 W ok A1 x.f1.length x.f1:=by
 obtain⟨A1,c1,rfl,l1,_⟩:=k47_open (Kd.FK_now h)
 exact⟨A1,c1,rfl,l1,(fun W' hW=>by obtain⟨A1_,c1_,he,l1_,g1_⟩:=k47_open (h W' hW);injection (Option.some.inj (show some (Value.slice A1 x.f1.length c1)=some (Value.slice A1_ x.f1.length c1_) from congrArg (fun l=>l[1]?) he)) with ha_ _ _;rw [ha_];exact g1_)⟩
theorem k47_mkF (W:World) (ok:Nat→Prop) (x:S47) {A1:Option Addr} {c1:Nat} (l1:x.f1.length≤c1) (g1:Kd.F k66 W ok A1 x.f1.length x.f1):Kd.FK k47 W ok x [.int .i64 x.f0, .slice A1 x.f1.length c1]:=fun W2 hW=>k47_mk W2 x l1 (g1 W2 hW)
def rd_T47 (xs:List S47) (i:Int):S47:=xs.getD i.toNat z47
theorem at_T47 {w:World} {A:Option Addr} {n:Nat} {xs:List S47} (h:Kd.C k47 w A n xs) (i:Int) (h0:0≤i) (h1:i<n): ∃ad A1 c1,A=some ad∧w.cell? (ad.add (i.toNat*2))=some (.int .i64 (rd_T47 xs i).f0)∧w.cell? ⟨(ad.add (i.toNat*2)).block,(ad.add (i.toNat*2)).off+1,none⟩=some (.slice A1 (rd_T47 xs i).f1.length c1)∧(rd_T47 xs i).f1.length≤c1∧k66.C w A1 (rd_T47 xs i).f1.length (rd_T47 xs i).f1:=by
 obtain⟨ad,c,e,_,hK,hc0⟩:=Kd.C_get h z47 i h0 h1
 have hc: ∀j u,c[j]? =some u→w.cell? (ad.add (i.toNat*2+j))=some u:=hc0
 obtain⟨A1,c1,rfl,l1,g1⟩:=k47_open hK
 exact⟨ad,A1,c1,e,hc 0 _ rfl,by rw [← add_field _ _ 1 (by omega)];exact hc 1 _ rfl,l1,g1⟩
structure S44 where
 f0:Int
 f1:Int
 f2:Int
 f3:Int
 f4:(List S47)
def z44:S44:=⟨(0:Int),(0:Int),(0:Int),(0:Int),([]:List S47)⟩
def k44:Kd S44:=Kd.iso (Kd.pair (Kd.int .i64) (Kd.pair (Kd.int .i64) (Kd.pair (Kd.int .i64) (Kd.pair (Kd.int .i64) (Kd.slice 47 k47))))) (fun x:S44=>(x.f0,x.f1,x.f2,x.f3,x.f4))
theorem k44_heap:Kd.Heap k44:=Kd.heap_iso _ (Kd.heap_pair (Kd.heap_int .i64) (Kd.heap_pair (Kd.heap_int .i64) (Kd.heap_pair (Kd.heap_int .i64) (Kd.heap_pair (Kd.heap_int .i64) (Kd.heap_slice 47 k47_heap)))))
theorem k44_open {w:World} {x:S44} {cs:List Value} (h:k44.K w x cs): ∃A4 c4,cs= [.int .i64 x.f0, .int .i64 x.f1, .int .i64 x.f2, .int .i64 x.f3, .slice A4 x.f4.length c4]∧x.f4.length≤c4∧k47.C w A4 x.f4.length x.f4:=by
 obtain⟨_,_,rfl,rfl,⟨_,_,rfl,rfl,⟨_,_,rfl,rfl,⟨_,_,rfl,rfl,⟨A4,c4,rfl,l4,g4⟩⟩⟩⟩⟩:=h
 exact⟨A4,c4,rfl,l4,g4⟩
theorem k44_openM {w:World} {base:Nat} {ok:Nat→Prop} {x:S44} {cs:List Value} (h:k44.M w base ok x cs): ∃v4,cs= [.int .i64 x.f0, .int .i64 x.f1, .int .i64 x.f2, .int .i64 x.f3,v4]∧k47.R 47 w base ok v4 x.f4:=by
 obtain⟨_,_,rfl,rfl,⟨_,_,rfl,rfl,⟨_,_,rfl,rfl,⟨_,_,rfl,rfl,⟨v4,rfl,g4⟩⟩⟩⟩⟩:=h
 exact⟨v4,rfl,g4⟩
theorem k44_mk (w:World) (x:S44) {A4:Option Addr} {c4:Nat} (l4:x.f4.length≤c4) (g4:k47.C w A4 x.f4.length x.f4):k44.K w x [.int .i64 x.f0, .int .i64 x.f1, .int .i64 x.f2, .int .i64 x.f3, .slice A4 x.f4.length c4]:=⟨[.int .i64 x.f0],[.int .i64 x.f1, .int .i64 x.f2, .int .i64 x.f3, .slice A4 x.f4.length c4],rfl,rfl,⟨[.int .i64 x.f1],[.int .i64 x.f2, .int .i64 x.f3, .slice A4 x.f4.length c4],rfl,rfl,⟨[.int .i64 x.f2],[.int .i64 x.f3, .slice A4 x.f4.length c4],rfl,rfl,⟨[.int .i64 x.f3],[.slice A4 x.f4.length c4],rfl,rfl,⟨A4,c4,rfl,l4,g4⟩⟩⟩⟩⟩
theorem k44_mkM (w:World) (base:Nat) (ok:Nat→Prop) (x:S44) {v4:Value} (g4:k47.R 47 w base ok v4 x.f4):k44.M w base ok x [.int .i64 x.f0, .int .i64 x.f1, .int .i64 x.f2, .int .i64 x.f3,v4]:=⟨[.int .i64 x.f0],[.int .i64 x.f1, .int .i64 x.f2, .int .i64 x.f3,v4],rfl,rfl,⟨[.int .i64 x.f1],[.int .i64 x.f2, .int .i64 x.f3,v4],rfl,rfl,⟨[.int .i64 x.f2],[.int .i64 x.f3,v4],rfl,rfl,⟨[.int .i64 x.f3],[v4],rfl,rfl,⟨v4,rfl,g4⟩⟩⟩⟩⟩
theorem k44_openF {W:World} {ok:Nat→Prop} {x:S44} {cs:List Value} (h:Kd.FK k44 W ok x cs): ∃A4 c4,cs= [.int .i64 x.f0, .int .i64 x.f1, .int .i64 x.f2, .int .i64 x.f3, .slice A4 x.f4.length c4]∧x.f4.length≤c4∧Kd.F k47 W ok A4 x.f4.length x.f4:=by
 obtain⟨A4,c4,rfl,l4,_⟩:=k44_open (Kd.FK_now h)
 exact⟨A4,c4,rfl,l4,(fun W' hW=>by obtain⟨A4_,c4_,he,l4_,g4_⟩:=k44_open (h W' hW);injection (Option.some.inj (show some (Value.slice A4 x.f4.length c4)=some (Value.slice A4_ x.f4.length c4_) from congrArg (fun l=>l[4]?) he)) with ha_ _ _;rw [ha_];exact g4_)⟩
theorem k44_mkF (W:World) (ok:Nat→Prop) (x:S44) {A4:Option Addr} {c4:Nat} (l4:x.f4.length≤c4) (g4:Kd.F k47 W ok A4 x.f4.length x.f4):Kd.FK k44 W ok x [.int .i64 x.f0, .int .i64 x.f1, .int .i64 x.f2, .int .i64 x.f3, .slice A4 x.f4.length c4]:=fun W2 hW=>k44_mk W2 x l4 (g4 W2 hW)
def rd_T44 (xs:List S44) (i:Int):S44:=xs.getD i.toNat z44
theorem at_T44 {w:World} {A:Option Addr} {n:Nat} {xs:List S44} (h:Kd.C k44 w A n xs) (i:Int) (h0:0≤i) (h1:i<n): ∃ad A4 c4,A=some ad∧w.cell? (ad.add (i.toNat*5))=some (.int .i64 (rd_T44 xs i).f0)∧w.cell? ⟨(ad.add (i.toNat*5)).block,(ad.add (i.toNat*5)).off+1,none⟩=some (.int .i64 (rd_T44 xs i).f1)∧w.cell? ⟨(ad.add (i.toNat*5)).block,(ad.add (i.toNat*5)).off+2,none⟩=some (.int .i64 (rd_T44 xs i).f2)∧w.cell? ⟨(ad.add (i.toNat*5)).block,(ad.add (i.toNat*5)).off+3,none⟩=some (.int .i64 (rd_T44 xs i).f3)∧w.cell? ⟨(ad.add (i.toNat*5)).block,(ad.add (i.toNat*5)).off+4,none⟩=some (.slice A4 (rd_T44 xs i).f4.length c4)∧(rd_T44 xs i).f4.length≤c4∧k47.C w A4 (rd_T44 xs i).f4.length (rd_T44 xs i).f4:=by
 obtain⟨ad,c,e,_,hK,hc0⟩:=Kd.C_get h z44 i h0 h1
 have hc: ∀j u,c[j]? =some u→w.cell? (ad.add (i.toNat*5+j))=some u:=hc0
 obtain⟨A4,c4,rfl,l4,g4⟩:=k44_open hK
 exact⟨ad,A4,c4,e,hc 0 _ rfl,by rw [← add_field _ _ 1 (by omega)];exact hc 1 _ rfl,by rw [← add_field _ _ 2 (by omega)];exact hc 2 _ rfl,by rw [← add_field _ _ 3 (by omega)];exact hc 3 _ rfl,by rw [← add_field _ _ 4 (by omega)];exact hc 4 _ rfl,l4,g4⟩
structure S64 where
 f0:Int
 f1:Int
def z64:S64:=⟨(0:Int),(0:Int)⟩
def k64:Kd S64:=Kd.iso (Kd.pair (Kd.int .i64) (Kd.int .i64)) (fun x:S64=>(x.f0,x.f1))
theorem k64_open {w:World} {x:S64} {cs:List Value} (h:k64.K w x cs):cs= [.int .i64 x.f0, .int .i64 x.f1]:=by
 obtain⟨_,_,rfl,rfl,rfl⟩:=h
 exact rfl
theorem k64_mkM (w:World) (base:Nat) (ok:Nat→Prop) (x:S64)  :k64.M w base ok x [.int .i64 x.f0, .int .i64 x.f1]:=⟨[.int .i64 x.f0],[.int .i64 x.f1],rfl,rfl,rfl⟩
def rd_T64 (xs:List S64) (i:Int):S64:=xs.getD i.toNat z64
theorem at_T64 {w:World} {A:Option Addr} {n:Nat} {xs:List S64} (h:Kd.C k64 w A n xs) (i:Int) (h0:0≤i) (h1:i<n): ∃ad ,A=some ad∧w.cell? (ad.add (i.toNat*2))=some (.int .i64 (rd_T64 xs i).f0)∧w.cell? ⟨(ad.add (i.toNat*2)).block,(ad.add (i.toNat*2)).off+1,none⟩=some (.int .i64 (rd_T64 xs i).f1):=by
 obtain⟨ad,c,e,_,hK,hc0⟩:=Kd.C_get h z64 i h0 h1
 have hc: ∀j u,c[j]? =some u→w.cell? (ad.add (i.toNat*2+j))=some u:=hc0
 obtain rfl:=k64_open hK
 exact⟨ad,e,hc 0 _ rfl,by rw [← add_field _ _ 1 (by omega)];exact hc 1 _ rfl⟩
def rd_L12 (xs:List (List Int)) (i:Int):(List Int):=xs.getD i.toNat ([]:List Int)
theorem at_L12 {w:World} {A:Option Addr} {n:Nat} {xs:List (List Int)} (h:Kd.C (Kd.slice 3 (Kd.int .i64)) w A n xs) (i:Int) (h0:0≤i) (h1:i<n): ∃ad A0 c0,A=some ad∧w.cell? (ad.add i.toNat)=some (.slice A0 (rd_L12 xs i).length c0)∧(rd_L12 xs i).length≤c0∧(Kd.int .i64).C w A0 (rd_L12 xs i).length (rd_L12 xs i):=by
 obtain⟨ad,c,e,_,hK,hc0⟩:=Kd.C_get h ([]:List Int) i h0 h1
 have hc: ∀j u,c[j]? =some u→w.cell? (ad.add (i.toNat*1+j))=some u:=hc0
 obtain⟨A0,c0,rfl,l0,g0⟩:=hK
 exact⟨ad,A0,c0,e,by have hq:=hc 0 _ rfl;rwa [Nat.mul_one,Nat.add_zero] at hq,l0,g0⟩
end Go.Proofs.Ytfnbodjmmkjlcaa.H
end
section
namespace Go.Proofs.Ytfnbodjmmkjlcaa.H
open Go.RowKit Go.Proofs.YtfnbodjmmkjlcaaW.PrintWords
set_option linter.unusedVariables false
def ok66 (x:S66):Prop:=(x.f0.size≤9223372036854775807)∧(True)
def sz66 (x:S66):Prop:=(x.f0.size≤140737488351232)∧(True)
def bk66 (x:S66):Nat:=((fun s_=>s_.size+1) x.f0+(fun _=>1) x.f1)+1
theorem opn66:Opening.Opn Try.prog 66 k66 ok66 sz66 bk66:=by
  have h:=Opening.opn_struct (fun x:S66=>(x.f0,x.f1)) (fun p_=>(⟨p_.1,p_.2⟩:S66)) (fun _=>rfl) Try.underlying66 (by kernel_rfl) (Opening.opnFs_cons rfl (by kernel_rfl) (Opening.opn_string Try.underlying9) (Opening.opnFs_last rfl (by kernel_rfl) (Opening.opn_bool Try.underlying4)))
  exact h
end Go.Proofs.Ytfnbodjmmkjlcaa.H
end
section
namespace Go.Proofs.Ytfnbodjmmkjlcaa.Rd
open Go.RowKit Go.Proofs.YtfnbodjmmkjlcaaW.PrintWords Go.Proofs.YtfnbodjmmkjlcaaW.PrintLast
set_option linter.unusedVariables false
theorem empty {α:Type} (d:Kd α) (W:World) (B g e:Nat) (ok:Nat→Prop) (h:W.heap[g]? =some (.cells #[] e (0,0))) (hB:B≤g) (hok:ok g) (hs:0<d.sz):d.R e W B ok (.slice (some ⟨g,0,none⟩) 0 0) []:=by
  refine⟨fun k hk=>?_,[],⟨by simp, .inr ⟨g,0, #[],rfl,hB,h,Nat.le_refl _,by omega,by simp,by simp⟩⟩,Reps.none _ _⟩
  have:g=k:=by simpa [Value.ownBlock] using hk
  exact this▸hok
theorem lit_ne {α:Type} {d:Kd α} {e:Nat} {W Y w1:World} {B g:Nat} {ok ok':Nat→Prop} {v0 v1:Value} {xs ys:List α} {o:Obj} (h0:d.R e W B ok v0 xs) (_h1:d.R e w1 B ok' v1 ys) (hat:v1.ownBlock=v0.ownBlock∨ ∃b,v1.ownBlock=some b∧Y.heap.size≤b) (hl:Y.heap[g]? =some o) (hg:W.heap.size≤g):some g≠v1.ownBlock:=by
  rcases hat with h|⟨b,h,hb⟩
  · rw [h]
    exact fun e_=>by have:=Kd.R_lt h0 _ e_.symm;omega
  · rw [h]
    exact fun e_=>by
      have:=blk_lt hl
      injection e_ with e_
      omega
theorem lit_ne2 {α:Type} {d:Kd α} {e:Nat} {Y w1:World} {B g:Nat} {ok':Nat→Prop} {v0 v1:Value} {ys:List α} (_h1:d.R e w1 B ok' v1 ys) (hat:v1.ownBlock=v0.ownBlock∨ ∃b,v1.ownBlock=some b∧Y.heap.size≤b) (h0:some g≠v0.ownBlock) (hg:g<Y.heap.size):some g≠v1.ownBlock:=by
  rcases hat with h|⟨b,h,hb⟩
  · rw [h]
    exact h0
  · rw [h]
    exact fun e_=>by
      injection e_ with e_
      omega
theorem lit_reads {α:Type} {W:World} {g t:Nat} {cs:List Value} (x:α) (n:Nat) (hn:cs.length=n) (hl:W.heap[g]? =some (.cells cs.toArray t (0,0))) (h1: ∀u∈cs,u.oneCell'=true):ReadsRow (fun y c=>y=x∧c=cs) n W (some ⟨g,0,none⟩) 1 [x]:=by
  refine⟨rfl,by decide,fun _=>⟨_,rfl,fun j p hj=>?_⟩⟩
  have hj0:j=0∧p=x:=by
    cases j with
    | zero=>exact⟨rfl,by simpa using hj.symm⟩
    | succ j=>simp at hj
  obtain⟨rfl,rfl⟩:=hj0
  refine⟨cs,hn,⟨rfl,rfl⟩,fun i u hi=>?_⟩
  rw [add_plain,blk_cell hl]
  simpa using hi
theorem own_new {W Y:World} {v0 v1:Value} (hat:v1.ownBlock=v0.ownBlock∨ ∃b,v1.ownBlock=some b∧Y.heap.size≤b) (hs:W.heap.size≤Y.heap.size) (h0: ∀k,v0.ownBlock=some k→W.heap.size≤k): ∀k,v1.ownBlock=some k→W.heap.size≤k:=by
  intro k hk
  rcases hat with h|⟨b,h,hb⟩
  · exact h0 k (h▸hk)
  · rw [h] at hk
    injection hk with hk
    omega
theorem grown_new {W Y w1:World} {row:Option Nat} (hB:Below W.heap.size W Y) (hg:Y.grownBy w1 row) (hr: ∀k,row=some k→W.heap.size≤k):Below W.heap.size W w1:=pw_below_grown hB row hB.size hg hr
end Go.Proofs.Ytfnbodjmmkjlcaa.Rd
end
section
namespace Go.Proofs.Ytfnbodjmmkjlcaa.H
open Go.RowKit Go.Proofs.YtfnbodjmmkjlcaaW.PrintWords Go.Proofs.YtfnbodjmmkjlcaaW.PrintLast Go.Proofs.YtfnbodjmmkjlcaaW.PrintMore
attribute [local go_sem] max2_int min2_int max_two min_two max_three min_three max_four min_four
set_option linter.unusedVariables false
set_option linter.unusedSimpArgs false
def api_Line_52.f (l0:List S66):Option (List S66):=if l0.length<5864062014805 then some l0 else none
set_option maxHeartbeats 4000000 in
set_option maxRecDepth 100000 in
theorem api_Line_52.made (A0:Option Addr) (c0:Nat) (l0:List S66) (w:World) (hr0:Kd.C k66 w A0 l0.length l0) (hc0:l0.length≤c0) (hl:l0.length<5864062014805):
    Calls Try.prog 52 #[.slice A0 l0.length c0] w fun e w'=> ∃v0_:Value,e= .returned (v0_)∧Kd.R k66 66 w' w.heap.size (fun _=>True) v0_ l0∧Below w.heap.size w w':=by
  have HR0:=Aside0.mk hr0
  have HC0:=Aside0.mk hc0
  have HB:=Aside0.mk (Below.refl w.heap.size w)
  have hnil: ∀W,(binOp .eql 37 (.slice A0 l0.length c0) (.slice none 0 0)).run Try.prog W= .ok (.bool A0.isNone) W:=fun W=>Lib.run_eql_slice_nil W 37 66 A0 l0.length c0 0 0 Try.underlying37
  clear hr0 hc0
  cases A0 with
  | none=>
    have h0:l0= []:=by
      cases l0 with
      | nil=>rfl
      | cons x xs=>
        obtain⟨ad,e,_⟩:=at_T66 HR0.out 0 (by omega) (by simp)
        cases e
    subst h0
    simp only [Option.isNone_none,List.length_nil] at hnil
    go_enter Try.func52,Try.ntmps52
    go_wp2
    go_ret
    exact⟨_,rfl,Kd.R_nil _ _ _ _ _,HB.out⟩
  | some ad=>
    simp only [Option.isNone_some] at hnil
    go_enter Try.func52,Try.ntmps52
    go_wp2_with(first|((with_reducible refine gate_dst (N:=5) rfl ?_);refine Kd.R_lit k66 w.heap.size 66 ?hg (N:=5) ?hd (xs:= []) (inner:= []) (ok:=fun _=>True) (okp:=fun _=>True) ?hr ?hp (fun _ hk=>hk) trivial HB.out (Nat.le_refl _) (by simp) ?_;(case hd=>rfl);(case hg=>rfl);(case hr=>(go_simp;done));(case hp=>exact Reps.none _ _);intro v1 w1 ho hb hg_ hnew_;have HO:=Aside0.mk ho;have HB1:=Aside0.mk hb;clear ho hb hg_ hnew_)|((with_reducible refine gate_builtin (b:= .append) (xs:= #[.tmp 5, .tmp 6]) rfl ?_);at_builtin;refine Kd.R_append_rows k66 (w0:=w) w.heap.size rfl (.tmp 5) (.tmp 6) 37 66 (.agg #[(.string ⟨#[]⟩),(.bool false)]) 24 rfl Try.underlying37 info66 rfl (by decide) (by omega) v1 [] l0 _ _ _ (fun _=>True) (fun _=>False) rfl rfl HO.out (Kd.C_below HR0.out HB1.out) (fun _ _ h=>h) (fun _ h=>h.elim) (fun _ _=>trivial) HB1.out HB1.out.size ?aL ?_;(case aL=>simp only [List.length_nil];omega);intro v2 w2 ho hb hg hat;have HO2:=Aside0.mk ho;have HB2:=Aside0.mk hb;clear ho hb hg hat))
    go_ret
    exact⟨_,rfl,HO2.out,HB2.out⟩
end Go.Proofs.Ytfnbodjmmkjlcaa.H
end
section
namespace Go.Proofs.Ytfnbodjmmkjlcaa.H
open Go.RowKit Go.Proofs.YtfnbodjmmkjlcaaW.PrintWords Go.Proofs.YtfnbodjmmkjlcaaW.PrintLast Go.Proofs.YtfnbodjmmkjlcaaW.PrintMore
attribute [local go_sem] max2_int min2_int max_two min_two max_three min_three max_four min_four
set_option linter.unusedVariables false
set_option linter.unusedSimpArgs false
def script_Check.l0:Nat→Int→Int→List (S47)→Int→Int→Option (Int)
 | 0,_,_,_,_,_=>none
 | k+1,x3,x4,x10,x11,x12=>if x12<x11 then (if 0≤x12 then (if x12<(x10.length:Int) then (if (mn (wrap64 (x3+(((rd_T47 x10 x12).f1).length:Int))) 801)>800 then (some 4) else (if ((rd_T47 x10 x12).f0)<1 then (script_Check.l0 k (mn (wrap64 (x3+(((rd_T47 x10 x12).f1).length:Int))) 801) 3 x10 x11 (wrap64 (x12+1))) else (if ((rd_T47 x10 x12).f0)>3 then (script_Check.l0 k (mn (wrap64 (x3+(((rd_T47 x10 x12).f1).length:Int))) 801) 3 x10 x11 (wrap64 (x12+1))) else (script_Check.l0 k (mn (wrap64 (x3+(((rd_T47 x10 x12).f1).length:Int))) 801) x4 x10 x11 (wrap64 (x12+1)))))) else (none)) else (none)) else (some x4)
def script_Check.f (k:Nat) (l0:List (S47)):Option (Int):=if (l0.length:Int)>800 then (some 4) else (script_Check.l0 k 0 0 l0 (l0.length:Int) 0)
theorem script_Check.mono_l: ∀k,(∀y0 y1 y2 y3 y4,LeO (script_Check.l0 k y0 y1 y2 y3 y4) (script_Check.l0 (k+1) y0 y1 y2 y3 y4))
 | 0=>fun _ _ _ _ _ r h=>by simp [script_Check.l0] at h
 | k+1=>by
  have ih0:=script_Check.mono_l k
  ·intro y0 y1 y2 y3 y4
   unfold script_Check.l0
   repeat' first
   | (with_reducible exact ih0 _ _ _ _ _)
   | (with_reducible exact LeO.refl _)
   | (with_reducible exact LeO.none _)
   | (with_reducible refine LeO.ite ?_ ?_)
   | (with_reducible refine LeO.bind ?_ (fun _=>?_))
   | exact ih0 _ _ _ _ _
   | exact LeO.none _
   | refine LeO.ite ?_ ?_
   | refine LeO.bind ?_ (fun _=>?_)
theorem script_Check.mono: ∀a0 k,LeO (script_Check.f k a0) (script_Check.f (k+1) a0):=by
 intro a0 k
 have ih0:=script_Check.mono_l k
 unfold script_Check.f
 repeat' first
   | (with_reducible exact ih0 _ _ _ _ _)
   | (with_reducible exact LeO.refl _)
   | (with_reducible exact LeO.none _)
   | (with_reducible refine LeO.ite ?_ ?_)
   | (with_reducible refine LeO.bind ?_ (fun _=>?_))
   | exact ih0 _ _ _ _ _
   | exact LeO.none _
   | refine LeO.ite ?_ ?_
   | refine LeO.bind ?_ (fun _=>?_)
set_option maxHeartbeats 8000000 in
set_option maxRecDepth 100000 in
theorem script_Check.calls (k:Nat) (A0:Option Addr) (c0:Nat) (l0:List (S47)) (r:Int) (w:World) (hr0:Kd.C k47 w A0 l0.length l0) (hc0:l0.length≤c0) (h:script_Check.f k l0=some r):
  Calls Try.prog 49 #[.slice A0 l0.length c0] w fun e w'=>e= .returned (.int .i64 r)∧Below w.heap.size w w':=by
 have hu47:=Try.underlying47
 have HR0:=Aside0.mk hr0
 have HC0:=Aside0.mk hc0
 clear hr0 hc0
 have HB:=Aside0.mk (Below.refl w.heap.size w)
 have H:(if (l0.length:Int)>800 then (some 4) else (script_Check.l0 k 0 0 l0 (l0.length:Int) 0))=some r:=h
 clear h
 by_cases c2:(l0.length:Int)>800
 ·rw [if_pos c2] at H
  have c2b0:decide (800<(l0.length:Int))=true:=decide_eq_true c2
  have c2b1:decide (800<l0.length)=true:=decide_eq_true (by omega)
  clear c2
  obtain rfl:=Option.some.inj H
  go_enter Try.func49,Try.ntmps49
  go_wp2
  go_ret
  exact⟨by rfl,by repeat((with_reducible exact HB.out))⟩
 ·rw [if_neg c2] at H
  have c2b0:decide (800<(l0.length:Int))=false:=decide_eq_false c2
  have c2b1:decide (800<l0.length)=false:=decide_eq_false (by omega)
  clear c2
  have H':=Aside0.mk H
  clear H
  go_enter Try.func49,Try.ntmps49
  go_wp2
  go_loopg [3,4,12] k (fun kq v3 v4 v12 w'=> ∃(x3_1:Int) (x4_1:Int) (x12_1:Int),v3= .int .i64 x3_1∧v4= .int .i64 x4_1∧v12= .int .i64 x12_1∧Aside0 (script_Check.l0 kq x3_1 x4_1 l0 (l0.length:Int) x12_1=some r)∧Aside0 (kq≤k)∧Aside0 (Below w.heap.size w w'))
  case atStart=>exact⟨(0),(0),(0),(by rfl),(by rfl),(by rfl),H',⟨Nat.le_refl _⟩,⟨by repeat((with_reducible exact HB.out))⟩⟩
  case round=>
   clear H'
   try clear c2b0
   try clear c2b1
   obtain⟨x3_1,x4_1,x12_1,rfl,rfl,rfl,HA,HK1,HB⟩:=hrel
   cases gk with
   | zero=>exact absurd HA.out (by simp [script_Check.l0])
   | succ k1=>
    have H:=HA.out
    clear HA
    simp only [script_Check.l0] at H
    by_cases c3:x12_1<(l0.length:Int)
    ·rw [if_pos c3] at H
     have c3b0:decide (x12_1<(l0.length:Int))=true:=decide_eq_true c3
     clear c3
     by_cases c4:0≤x12_1
     ·rw [if_pos c4] at H
      have c4b0:decide (0≤x12_1)=true:=decide_eq_true c4
      clear c4
      by_cases c5:x12_1<(l0.length:Int)
      ·rw [if_pos c5] at H
       have c5b0:decide (x12_1<(l0.length:Int))=true:=decide_eq_true c5
       clear c5
       obtain⟨ji6,hji6⟩: ∃j_:Int,(mn (wrap64 (x3_1+(((rd_T47 l0 x12_1).f1).length:Int))) 801)=j_:=⟨_,rfl⟩
       replace H:(if (ji6)>800 then (some 4) else (if ((rd_T47 l0 x12_1).f0)<1 then (script_Check.l0 k1 ji6 3 l0 (l0.length:Int) (wrap64 (x12_1+1))) else (if ((rd_T47 l0 x12_1).f0)>3 then (script_Check.l0 k1 ji6 3 l0 (l0.length:Int) (wrap64 (x12_1+1))) else (script_Check.l0 k1 ji6 x4_1 l0 (l0.length:Int) (wrap64 (x12_1+1))))))=some r:=by(rw [hji6] at H;exact H)
       have hji6_:(if 801<(wrap64 (x3_1+(((rd_T47 l0 x12_1).f1).length:Int))) then 801 else (wrap64 (x3_1+(((rd_T47 l0 x12_1).f1).length:Int))))=ji6:=hji6
       by_cases c7:(ji6)>800
       ·rw [if_pos c7] at H
        have c7b0:decide (800<(ji6))=true:=decide_eq_true c7
        clear c7
        obtain rfl:=Option.some.inj H
        have p102:0≤(x12_1:Int):=of_decide_eq_true (by(with_reducible assumption))
        have q102:x12_1<(l0.length:Int):=of_decide_eq_true (by(with_reducible assumption))
        obtain⟨ad102,A102_1,c102_1,e102,hx102_0,hx102_1,hl102_1,hi102_1⟩:=at_T47 HR0.out x12_1 p102 q102
        cases e102
        replace hx102_0:=(HB.out.cell (World.block_lt_of_cell? w _ hx102_0)).trans hx102_0
        replace hx102_1:=(HB.out.cell (World.block_lt_of_cell? w _ hx102_1)).trans hx102_1
        have HR102_1:=Aside0.mk hi102_1
        have HC102_1:=Aside0.mk hl102_1
        clear hi102_1 hl102_1
        replace p102:=eq_true p102
        replace q102:=eq_true q102
        go_wp2_with(((with_reducible refine gate_dst (N:=6) rfl ?_);refine box_event ?hg (N:=6) ?hd (cs:= #[.int .i64 0, .slice none 0 0]) (t:=47) ?hr ?_;(case hd=>rfl);(case hg=>rfl);(case hr=>(go_simp;done));intro gb103 hg w8 hbox hb;have n0_:=Aside0.mk (below_step (by repeat((with_reducible exact HB.out))) hb);have n1_:=Aside0.mk (hbox);have n2_:=Aside0.mk ((by rw [hg];exact(below_size (by repeat((with_reducible exact HB.out)))):w.heap.size≤gb103));have n3_:=Aside0.mk ((by rw [hg];exact(below_size (by repeat((with_reducible exact HB.out)))):w.heap.size≤gb103));clear HB;have HB:=n0_;have BK103:=n1_;have GW103:=n2_;have GE103:=n3_;clear n0_ n1_ n2_ n3_;clear hb hbox hg;have hcz9_0:w8.cell? ⟨gb103,0,none⟩=some (.int .i64 0):=(blk_cell BK103.out 0).trans rfl;have hcz9_1:w8.cell? ⟨gb103,1,none⟩=some (.slice none 0 0):=(blk_cell BK103.out 1).trans rfl;have hfz9_0:=blk_frozen BK103.out 0;have hfz9_1:=blk_frozen BK103.out 1))
        go_ret
        exact⟨by rfl,by repeat((with_reducible first|exact HB.out|refine below_set ?_ GE103.out))⟩
       ·rw [if_neg c7] at H
        have c7b0:decide (800<(ji6))=false:=decide_eq_false c7
        clear c7
        by_cases c10:((rd_T47 l0 x12_1).f0)<1
        ·rw [if_pos c10] at H
         have c10b0:decide (((rd_T47 l0 x12_1).f0)<1)=true:=decide_eq_true c10
         clear c10
         have H':=Aside0.mk H
         clear H
         have p102:0≤(x12_1:Int):=of_decide_eq_true (by(with_reducible assumption))
         have q102:x12_1<(l0.length:Int):=of_decide_eq_true (by(with_reducible assumption))
         obtain⟨ad102,A102_1,c102_1,e102,hx102_0,hx102_1,hl102_1,hi102_1⟩:=at_T47 HR0.out x12_1 p102 q102
         cases e102
         replace hx102_0:=(HB.out.cell (World.block_lt_of_cell? w _ hx102_0)).trans hx102_0
         replace hx102_1:=(HB.out.cell (World.block_lt_of_cell? w _ hx102_1)).trans hx102_1
         have HR102_1:=Aside0.mk hi102_1
         have HC102_1:=Aside0.mk hl102_1
         clear hi102_1 hl102_1
         replace p102:=eq_true p102
         replace q102:=eq_true q102
         go_wp2_with(((with_reducible refine gate_dst (N:=6) rfl ?_);refine box_event ?hg (N:=6) ?hd (cs:= #[.int .i64 0, .slice none 0 0]) (t:=47) ?hr ?_;(case hd=>rfl);(case hg=>rfl);(case hr=>(go_simp;done));intro gb103 hg w11 hbox hb;have n0_:=Aside0.mk (below_step (by repeat((with_reducible exact HB.out))) hb);have n1_:=Aside0.mk (hbox);have n2_:=Aside0.mk ((by rw [hg];exact(below_size (by repeat((with_reducible exact HB.out)))):w.heap.size≤gb103));have n3_:=Aside0.mk ((by rw [hg];exact(below_size (by repeat((with_reducible exact HB.out)))):w.heap.size≤gb103));clear HB;have HB:=n0_;have BK103:=n1_;have GW103:=n2_;have GE103:=n3_;clear n0_ n1_ n2_ n3_;clear hb hbox hg;have hcz12_0:w11.cell? ⟨gb103,0,none⟩=some (.int .i64 0):=(blk_cell BK103.out 0).trans rfl;have hcz12_1:w11.cell? ⟨gb103,1,none⟩=some (.slice none 0 0):=(blk_cell BK103.out 1).trans rfl;have hfz12_0:=blk_frozen BK103.out 0;have hfz12_1:=blk_frozen BK103.out 1))
         go_roundg k1
         case measure=>have:=HK1.out;omega
         case rel=>exact⟨(ji6),(3),(wrap64 (x12_1+1)),(by rfl),(by rfl),(by rfl),H',⟨by have:=HK1.out;omega⟩,⟨by repeat((with_reducible first|exact HB.out|refine below_set ?_ GE103.out))⟩⟩
        ·rw [if_neg c10] at H
         have c10b0:decide (((rd_T47 l0 x12_1).f0)<1)=false:=decide_eq_false c10
         clear c10
         by_cases c13:((rd_T47 l0 x12_1).f0)>3
         ·rw [if_pos c13] at H
          have c13b0:decide (3<((rd_T47 l0 x12_1).f0))=true:=decide_eq_true c13
          clear c13
          have H':=Aside0.mk H
          clear H
          have p102:0≤(x12_1:Int):=of_decide_eq_true (by(with_reducible assumption))
          have q102:x12_1<(l0.length:Int):=of_decide_eq_true (by(with_reducible assumption))
          obtain⟨ad102,A102_1,c102_1,e102,hx102_0,hx102_1,hl102_1,hi102_1⟩:=at_T47 HR0.out x12_1 p102 q102
          cases e102
          replace hx102_0:=(HB.out.cell (World.block_lt_of_cell? w _ hx102_0)).trans hx102_0
          replace hx102_1:=(HB.out.cell (World.block_lt_of_cell? w _ hx102_1)).trans hx102_1
          have HR102_1:=Aside0.mk hi102_1
          have HC102_1:=Aside0.mk hl102_1
          clear hi102_1 hl102_1
          replace p102:=eq_true p102
          replace q102:=eq_true q102
          go_wp2_with(((with_reducible refine gate_dst (N:=6) rfl ?_);refine box_event ?hg (N:=6) ?hd (cs:= #[.int .i64 0, .slice none 0 0]) (t:=47) ?hr ?_;(case hd=>rfl);(case hg=>rfl);(case hr=>(go_simp;done));intro gb103 hg w14 hbox hb;have n0_:=Aside0.mk (below_step (by repeat((with_reducible exact HB.out))) hb);have n1_:=Aside0.mk (hbox);have n2_:=Aside0.mk ((by rw [hg];exact(below_size (by repeat((with_reducible exact HB.out)))):w.heap.size≤gb103));have n3_:=Aside0.mk ((by rw [hg];exact(below_size (by repeat((with_reducible exact HB.out)))):w.heap.size≤gb103));clear HB;have HB:=n0_;have BK103:=n1_;have GW103:=n2_;have GE103:=n3_;clear n0_ n1_ n2_ n3_;clear hb hbox hg;have hcz15_0:w14.cell? ⟨gb103,0,none⟩=some (.int .i64 0):=(blk_cell BK103.out 0).trans rfl;have hcz15_1:w14.cell? ⟨gb103,1,none⟩=some (.slice none 0 0):=(blk_cell BK103.out 1).trans rfl;have hfz15_0:=blk_frozen BK103.out 0;have hfz15_1:=blk_frozen BK103.out 1))
          go_roundg k1
          case measure=>have:=HK1.out;omega
          case rel=>exact⟨(ji6),(3),(wrap64 (x12_1+1)),(by rfl),(by rfl),(by rfl),H',⟨by have:=HK1.out;omega⟩,⟨by repeat((with_reducible first|exact HB.out|refine below_set ?_ GE103.out))⟩⟩
         ·rw [if_neg c13] at H
          have c13b0:decide (3<((rd_T47 l0 x12_1).f0))=false:=decide_eq_false c13
          clear c13
          have H':=Aside0.mk H
          clear H
          have p102:0≤(x12_1:Int):=of_decide_eq_true (by(with_reducible assumption))
          have q102:x12_1<(l0.length:Int):=of_decide_eq_true (by(with_reducible assumption))
          obtain⟨ad102,A102_1,c102_1,e102,hx102_0,hx102_1,hl102_1,hi102_1⟩:=at_T47 HR0.out x12_1 p102 q102
          cases e102
          replace hx102_0:=(HB.out.cell (World.block_lt_of_cell? w _ hx102_0)).trans hx102_0
          replace hx102_1:=(HB.out.cell (World.block_lt_of_cell? w _ hx102_1)).trans hx102_1
          have HR102_1:=Aside0.mk hi102_1
          have HC102_1:=Aside0.mk hl102_1
          clear hi102_1 hl102_1
          replace p102:=eq_true p102
          replace q102:=eq_true q102
          go_wp2_with(((with_reducible refine gate_dst (N:=6) rfl ?_);refine box_event ?hg (N:=6) ?hd (cs:= #[.int .i64 0, .slice none 0 0]) (t:=47) ?hr ?_;(case hd=>rfl);(case hg=>rfl);(case hr=>(go_simp;done));intro gb103 hg w16 hbox hb;have n0_:=Aside0.mk (below_step (by repeat((with_reducible exact HB.out))) hb);have n1_:=Aside0.mk (hbox);have n2_:=Aside0.mk ((by rw [hg];exact(below_size (by repeat((with_reducible exact HB.out)))):w.heap.size≤gb103));have n3_:=Aside0.mk ((by rw [hg];exact(below_size (by repeat((with_reducible exact HB.out)))):w.heap.size≤gb103));clear HB;have HB:=n0_;have BK103:=n1_;have GW103:=n2_;have GE103:=n3_;clear n0_ n1_ n2_ n3_;clear hb hbox hg;have hcz17_0:w16.cell? ⟨gb103,0,none⟩=some (.int .i64 0):=(blk_cell BK103.out 0).trans rfl;have hcz17_1:w16.cell? ⟨gb103,1,none⟩=some (.slice none 0 0):=(blk_cell BK103.out 1).trans rfl;have hfz17_0:=blk_frozen BK103.out 0;have hfz17_1:=blk_frozen BK103.out 1))
          go_roundg k1
          case measure=>have:=HK1.out;omega
          case rel=>exact⟨(ji6),(x4_1),(wrap64 (x12_1+1)),(by rfl),(by rfl),(by rfl),H',⟨by have:=HK1.out;omega⟩,⟨by repeat((with_reducible first|exact HB.out|refine below_set ?_ GE103.out))⟩⟩
      ·rw [if_neg c5] at H
       exact absurd H (by simp)
     ·rw [if_neg c4] at H
      exact absurd H (by simp)
    ·rw [if_neg c3] at H
     have c3b0:decide (x12_1<(l0.length:Int))=false:=decide_eq_false c3
     clear c3
     obtain rfl:=Option.some.inj H
     go_wp2
     go_ret
     exact⟨by rfl,by repeat((with_reducible exact HB.out))⟩
end Go.Proofs.Ytfnbodjmmkjlcaa.H
end
section
namespace Go.Proofs.Ytfnbodjmmkjlcaa.H
open Go.RowKit Go.Proofs.YtfnbodjmmkjlcaaW.PrintWords Go.Proofs.YtfnbodjmmkjlcaaW.PrintLast Go.Proofs.YtfnbodjmmkjlcaaW.PrintMore
attribute [local go_sem] max2_int min2_int max_two min_two max_three min_three max_four min_four
set_option linter.unusedVariables false
set_option linter.unusedSimpArgs false
def script_sides.l0:Nat→List (S66)→List (S66)→List (S47)→Int→Int→Option ((List (S66))×(List (S66)))
 | 0,_,_,_,_,_=>none
 | k+1,x2,x3,x6,x7,x8=>if x8<x7 then (if 0≤x8 then (if x8<(x6.length:Int) then (if ((rd_T47 x6 x8).f0)=1 then (if x3.length+((rd_T47 x6 x8).f1).length<5864062014805 then (if x2.length+((rd_T47 x6 x8).f1).length<5864062014805 then (script_sides.l0 k (x2++((rd_T47 x6 x8).f1)) (x3++((rd_T47 x6 x8).f1)) x6 x7 (wrap64 (x8+1))) else (none)) else (none)) else (if ((rd_T47 x6 x8).f0)=2 then (if x2.length+((rd_T47 x6 x8).f1).length<5864062014805 then (script_sides.l0 k (x2++((rd_T47 x6 x8).f1)) x3 x6 x7 (wrap64 (x8+1))) else (none)) else (if x3.length+((rd_T47 x6 x8).f1).length<5864062014805 then (script_sides.l0 k x2 (x3++((rd_T47 x6 x8).f1)) x6 x7 (wrap64 (x8+1))) else (none)))) else (none)) else (none)) else (some (x2,x3))
def script_sides.f (k:Nat) (l0:List (S47)):Option ((List (S66))×(List (S66))):=script_sides.l0 k ([]:List (S66)) ([]:List (S66)) l0 (l0.length:Int) 0
theorem script_sides.mono_l: ∀k,(∀y0 y1 y2 y3 y4,LeO (script_sides.l0 k y0 y1 y2 y3 y4) (script_sides.l0 (k+1) y0 y1 y2 y3 y4))
 | 0=>fun _ _ _ _ _ r h=>by simp [script_sides.l0] at h
 | k+1=>by
  have ih0:=script_sides.mono_l k
  ·intro y0 y1 y2 y3 y4
   unfold script_sides.l0
   repeat' first
   | (with_reducible exact ih0 _ _ _ _ _)
   | (with_reducible exact LeO.refl _)
   | (with_reducible exact LeO.none _)
   | (with_reducible refine LeO.ite ?_ ?_)
   | (with_reducible refine LeO.bind ?_ (fun _=>?_))
   | exact ih0 _ _ _ _ _
   | exact LeO.none _
   | refine LeO.ite ?_ ?_
   | refine LeO.bind ?_ (fun _=>?_)
theorem script_sides.mono: ∀a0 k,LeO (script_sides.f k a0) (script_sides.f (k+1) a0):=by
 intro a0 k
 have ih0:=script_sides.mono_l k
 unfold script_sides.f
 repeat' first
   | (with_reducible exact ih0 _ _ _ _ _)
   | (with_reducible exact LeO.refl _)
   | (with_reducible exact LeO.none _)
   | (with_reducible refine LeO.ite ?_ ?_)
   | (with_reducible refine LeO.bind ?_ (fun _=>?_))
   | exact ih0 _ _ _ _ _
   | exact LeO.none _
   | refine LeO.ite ?_ ?_
   | refine LeO.bind ?_ (fun _=>?_)
set_option maxHeartbeats 8000000 in
set_option maxRecDepth 100000 in
theorem script_sides.calls (k:Nat) (A0:Option Addr) (c0:Nat) (l0:List (S47)) (r1:List (S66)) (r2:List (S66)) (w:World) (hr0:Kd.C k47 w A0 l0.length l0) (hc0:l0.length≤c0) (h:script_sides.f k l0=some (r1,r2)):
  Calls Try.prog 73 #[.slice A0 l0.length c0] w fun e w'=> ∃v0_ v1_:Value,e= .returned (.tuple #[v0_,v1_])∧Kd.R k66 66 w' w.heap.size (fun k_=>some k_≠(v1_:Value).ownBlock) v0_ r1∧Kd.R k66 66 w' w.heap.size (fun k_=>some k_≠(v0_:Value).ownBlock) v1_ r2∧Below w.heap.size w w':=by
 have hu47:=Try.underlying47
 have HR0:=Aside0.mk hr0
 have HC0:=Aside0.mk hc0
 clear hr0 hc0
 have HB:=Aside0.mk (Below.refl w.heap.size w)
 have H:(script_sides.l0 k ([]:List (S66)) ([]:List (S66)) l0 (l0.length:Int) 0)=some (r1,r2):=h
 clear h
 have H':=Aside0.mk H
 clear H
 go_enter Try.func73,Try.ntmps73
 go_wp2
 go_loopg [2,3,8] k (fun kq v2 v3 v8 w'=> ∃(x2_1:List (S66)) (x3_1:List (S66)) (x8_1:Int),v8= .int .i64 x8_1∧Aside0 (script_sides.l0 kq x2_1 x3_1 l0 (l0.length:Int) x8_1=some (r1,r2))∧Aside0 (kq≤k)∧Aside0 (Kd.R k66 66 w' w.heap.size (fun k_=>some k_≠(v3:Value).ownBlock) v2 x2_1)∧Aside0 (Kd.R k66 66 w' w.heap.size (fun k_=>some k_≠(v2:Value).ownBlock) v3 x3_1)∧Aside0 (Below w.heap.size w w'))
 case atStart=>exact⟨(([]:List (S66))),(([]:List (S66))),(0),(by rfl),H',⟨Nat.le_refl _⟩,⟨by exact Kd.R_nil _ _ _ _ _⟩,⟨by exact Kd.R_nil _ _ _ _ _⟩,⟨by repeat((with_reducible exact HB.out))⟩⟩
 case round=>
  clear H'
  obtain⟨x2_1,x3_1,x8_1,rfl,HA,HK1,HO_2,HO_3,HB⟩:=hrel
  cases gk with
  | zero=>exact absurd HA.out (by simp [script_sides.l0])
  | succ k1=>
   have H:=HA.out
   clear HA
   simp only [script_sides.l0] at H
   by_cases c2:x8_1<(l0.length:Int)
   ·rw [if_pos c2] at H
    have c2b0:decide (x8_1<(l0.length:Int))=true:=decide_eq_true c2
    clear c2
    by_cases c3:0≤x8_1
    ·rw [if_pos c3] at H
     have c3b0:decide (0≤x8_1)=true:=decide_eq_true c3
     clear c3
     by_cases c4:x8_1<(l0.length:Int)
     ·rw [if_pos c4] at H
      have c4b0:decide (x8_1<(l0.length:Int))=true:=decide_eq_true c4
      clear c4
      by_cases c5:((rd_T47 l0 x8_1).f0)=1
      ·rw [if_pos c5] at H
       have c5b0:(((rd_T47 l0 x8_1).f0)==1)=true:=beq_iff_eq.mpr c5
       have c5b1:(((rd_T47 l0 x8_1).f0) != 1)=false:=bne_eq_false_iff_eq.mpr c5
       clear c5
       by_cases c6:x3_1.length+((rd_T47 l0 x8_1).f1).length<5864062014805
       ·rw [if_pos c6] at H
        have LMc6:=Aside0.mk c6
        clear c6
        obtain⟨y113,hy113⟩: ∃y_:List (S66),y_=(x3_1++((rd_T47 l0 x8_1).f1)):=⟨_,rfl⟩
        replace H:(if x2_1.length+((rd_T47 l0 x8_1).f1).length<5864062014805 then (script_sides.l0 k1 (x2_1++((rd_T47 l0 x8_1).f1)) y113 l0 (l0.length:Int) (wrap64 (x8_1+1))) else (none))=some (r1,r2):=by(rw [hy113];with_reducible exact H)
        have Ny113:=Aside0.mk hy113
        clear hy113
        by_cases c7:x2_1.length+((rd_T47 l0 x8_1).f1).length<5864062014805
        ·rw [if_pos c7] at H
         have LMc7:=Aside0.mk c7
         clear c7
         obtain⟨y116,hy116⟩: ∃y_:List (S66),y_=(x2_1++((rd_T47 l0 x8_1).f1)):=⟨_,rfl⟩
         replace H:(script_sides.l0 k1 y116 y113 l0 (l0.length:Int) (wrap64 (x8_1+1)))=some (r1,r2):=by(rw [hy116];with_reducible exact H)
         have Ny116:=Aside0.mk hy116
         clear hy116
         have H':=Aside0.mk H
         clear H
         have p111:0≤(x8_1:Int):=of_decide_eq_true (by(with_reducible assumption))
         have q111:x8_1<(l0.length:Int):=of_decide_eq_true (by(with_reducible assumption))
         obtain⟨ad111,A111_1,c111_1,e111,hx111_0,hx111_1,hl111_1,hi111_1⟩:=at_T47 HR0.out x8_1 p111 q111
         cases e111
         replace hx111_0:=(HB.out.cell (World.block_lt_of_cell? w _ hx111_0)).trans hx111_0
         replace hx111_1:=(HB.out.cell (World.block_lt_of_cell? w _ hx111_1)).trans hx111_1
         have HR111_1:=Aside0.mk hi111_1
         have HC111_1:=Aside0.mk hl111_1
         clear hi111_1 hl111_1
         replace p111:=eq_true p111
         replace q111:=eq_true q111
         go_wp2_with(first|((with_reducible refine gate_dst (N:=5) rfl ?_);refine box_event ?hg (N:=5) ?hd (cs:= #[.int .i64 0, .slice none 0 0]) (t:=47) ?hr ?_;(case hd=>rfl);(case hg=>rfl);(case hr=>(go_simp;done));intro gb112 hg w8 hbox hb;have n0_:=Aside0.mk (Kd.R_below (by exact HO_2.out) hb);have n1_:=Aside0.mk (Kd.R_below (by exact HO_3.out) hb);have n2_:=Aside0.mk (below_step (by repeat((with_reducible exact HB.out))) hb);have n3_:=Aside0.mk (hbox);have n4_:=Aside0.mk ((by rw [hg];exact(below_size (by repeat((with_reducible exact HB.out)))):w.heap.size≤gb112));have n5_:=Aside0.mk ((by rw [hg];exact(below_size (by repeat((with_reducible exact HB.out)))):w.heap.size≤gb112));clear HO_2;clear HO_3;clear HB;have HO_2:=n0_;have HO_3:=n1_;have HB:=n2_;have BK112:=n3_;have GW112:=n4_;have GE112:=n5_;clear n0_ n1_ n2_ n3_ n4_ n5_;clear hb hbox hg;have hcz9_0:w8.cell? ⟨gb112,0,none⟩=some (.int .i64 0):=(blk_cell BK112.out 0).trans rfl;have hcz9_1:w8.cell? ⟨gb112,1,none⟩=some (.slice none 0 0):=(blk_cell BK112.out 1).trans rfl;have hfz9_0:=blk_frozen BK112.out 0;have hfz9_1:=blk_frozen BK112.out 1)|((with_reducible refine gate_builtin (b:= .append) (xs:= #[.tmp 18, .tmp 20]) rfl ?_);at_builtin;refine Kd.R_append_rows k66 (w0:=w) w.heap.size rfl (.tmp 18) (.tmp 20) 37 66 (.agg #[(.string ⟨#[]⟩),(.bool false)]) 24 rfl Try.underlying37 info66 rfl (by decide) (by omega) u3 x3_1 ((rd_T47 l0 x8_1).f1) _ _ _ (fun k_=>some k_≠(u2:Value).ownBlock) (fun _=>False) rfl rfl ?aO ?aR (fun _ _ h=>h) (fun _ h=>h.elim) ?aF ?aB ?aS ?aL ?_;(case aR=>exact Kd.C_below HR111_1.out (by repeat((with_reducible first|exact HB.out|refine below_set ?_ GE112.out))));(case aB=>exact(by repeat((with_reducible first|exact HB.out|refine below_set ?_ GE112.out))));(case aF=>exact(fun k_ hk=>Kd.fresh' (Kd.R_lt (by exact(Kd.R_mono (Kd.R_far (p:=⟨gb112,1,none⟩) (Kd.R_far (p:=⟨gb112,0,none⟩) (Kd.R_types HO_2.out BK112.out (by decide)) (fun _ hk=>hk.2) (.int .i64 ((rd_T47 l0 x8_1).f0))) (fun _ hk=>hk.2) (.slice A111_1 ((rd_T47 l0 x8_1).f1).length c111_1)) (fun _ h_=>h_.1)))) k_ hk));(case aO=>exact(by exact Kd.R_mono (Kd.R_far (p:=⟨gb112,1,none⟩) (Kd.R_far (p:=⟨gb112,0,none⟩) (Kd.R_types HO_3.out BK112.out (by decide)) (fun _ hk=>hk.2) (.int .i64 ((rd_T47 l0 x8_1).f0))) (fun _ hk=>hk.2) (.slice A111_1 ((rd_T47 l0 x8_1).f1).length c111_1)) (fun _ hk=>hk.1)));(case aS=>exact(below_size (by repeat((with_reducible first|exact HB.out|refine below_set ?_ GE112.out)))));(case aL=>have:=LMc6.out;omega);intro v114 w10 ho hb hg hat;rw [← Ny113.out] at ho;have n0_:=Aside0.mk (Kd.R_after (ok:=(fun _=>True)) (by exact Kd.R_mono (Kd.R_far (p:=⟨gb112,1,none⟩) (Kd.R_far (p:=⟨gb112,0,none⟩) (Kd.R_types HO_2.out BK112.out (by decide)) (fun _ hk=>hk.2) (.int .i64 ((rd_T47 l0 x8_1).f0))) (fun _ hk=>hk.2) (.slice A111_1 ((rd_T47 l0 x8_1).f1).length c111_1)) (fun _ hk=>⟨trivial,hk.1⟩)) hg hat);have n1_:=Aside0.mk (blk_grown (g:=gb112) (o:= .cells #[.int .i64 ((rd_T47 l0 x8_1).f0), .slice A111_1 ((rd_T47 l0 x8_1).f1).length c111_1] 47 (0,0)) (by refine blk_put (cs:= #[.int .i64 ((rd_T47 l0 x8_1).f0), .slice none 0 0]) ?_ 1 _ rfl;refine blk_put (cs:= #[.int .i64 0, .slice none 0 0]) ?_ 0 _ rfl;exact BK112.out) hg (Kd.R_ne HO_3.out BK112.out (by decide)));have n2_:=Aside0.mk (hb);have n3_:=Aside0.mk (ho);clear HO_2;clear BK112;clear HB;clear HO_3;have HO_2:=n0_;have BK112:=n1_;have HB:=n2_;have HO115:=n3_;clear n0_ n1_ n2_ n3_;clear ho hb hg hat;have hcz11_0:w10.cell? ⟨gb112,0,none⟩=some (.int .i64 ((rd_T47 l0 x8_1).f0)):=(blk_cell BK112.out 0).trans rfl;have hcz11_1:w10.cell? ⟨gb112,1,none⟩=some (.slice A111_1 ((rd_T47 l0 x8_1).f1).length c111_1):=(blk_cell BK112.out 1).trans rfl;have hfz11_0:=blk_frozen BK112.out 0;have hfz11_1:=blk_frozen BK112.out 1)|((with_reducible refine gate_builtin (b:= .append) (xs:= #[.tmp 22, .tmp 24]) rfl ?_);at_builtin;refine Kd.R_append_rows k66 (w0:=w) w.heap.size rfl (.tmp 22) (.tmp 24) 37 66 (.agg #[(.string ⟨#[]⟩),(.bool false)]) 24 rfl Try.underlying37 info66 rfl (by decide) (by omega) u2 x2_1 ((rd_T47 l0 x8_1).f1) _ _ _ (fun k_=>some k_≠(v114:Value).ownBlock) (fun _=>False) rfl rfl ?aO ?aR (fun _ _ h=>h) (fun _ h=>h.elim) ?aF ?aB ?aS ?aL ?_;(case aR=>repeat(exact(Kd.C_below HR111_1.out HB.out)));(case aB=>exact(by repeat((with_reducible exact HB.out))));(case aF=>exact(fun k_ hk=>Kd.fresh' (Kd.R_lt (by exact HO115.out)) k_ hk));(case aO=>exact(by exact Kd.R_mono HO_2.out (fun _ hk=>hk.2)));(case aS=>exact(below_size (by repeat((with_reducible exact HB.out)))));(case aL=>have:=LMc7.out;omega);intro v117 w12 ho hb hg hat;rw [← Ny116.out] at ho;have n0_:=Aside0.mk (blk_grown (g:=gb112) (o:= .cells #[.int .i64 ((rd_T47 l0 x8_1).f0), .slice A111_1 ((rd_T47 l0 x8_1).f1).length c111_1] 47 (0,0)) (by exact BK112.out) hg (Kd.R_ne HO_2.out BK112.out (by decide)));have n1_:=Aside0.mk (Kd.R_after (ok:=(fun _=>True)) (by exact Kd.R_mono HO115.out (fun _ hk=>⟨trivial,hk⟩)) hg hat);have n2_:=Aside0.mk (hb);have n3_:=Aside0.mk (ho);clear BK112;clear HO115;clear HB;clear HO_2;have BK112:=n0_;have HO115:=n1_;have HB:=n2_;have HO118:=n3_;clear n0_ n1_ n2_ n3_;clear ho hb hg hat))
         go_roundg k1
         case measure=>have:=HK1.out;omega
         case rel=>exact⟨(y116),(y113),(wrap64 (x8_1+1)),(by rfl),H',⟨by have:=HK1.out;omega⟩,⟨by exact HO118.out⟩,⟨by exact Kd.R_mono HO115.out (fun _ hk=>hk.2)⟩,⟨by repeat((with_reducible exact HB.out))⟩⟩
        ·rw [if_neg c7] at H
         exact absurd H (by simp)
       ·rw [if_neg c6] at H
        exact absurd H (by simp)
      ·rw [if_neg c5] at H
       have c5b0:(((rd_T47 l0 x8_1).f0)==1)=false:=beq_eq_false_iff_ne.mpr c5
       have c5b1:(((rd_T47 l0 x8_1).f0) != 1)=true:=bne_iff_ne.mpr c5
       by_cases c13:((rd_T47 l0 x8_1).f0)=2
       ·rw [if_pos c13] at H
        have c13b0:(((rd_T47 l0 x8_1).f0)==2)=true:=beq_iff_eq.mpr c13
        have c13b1:(((rd_T47 l0 x8_1).f0) != 2)=false:=bne_eq_false_iff_eq.mpr c13
        clear c13
        by_cases c14:x2_1.length+((rd_T47 l0 x8_1).f1).length<5864062014805
        ·rw [if_pos c14] at H
         have LMc14:=Aside0.mk c14
         clear c14
         obtain⟨y119,hy119⟩: ∃y_:List (S66),y_=(x2_1++((rd_T47 l0 x8_1).f1)):=⟨_,rfl⟩
         replace H:(script_sides.l0 k1 y119 x3_1 l0 (l0.length:Int) (wrap64 (x8_1+1)))=some (r1,r2):=by(rw [hy119];with_reducible exact H)
         have Ny119:=Aside0.mk hy119
         clear hy119
         have H':=Aside0.mk H
         clear H
         have p111:0≤(x8_1:Int):=of_decide_eq_true (by(with_reducible assumption))
         have q111:x8_1<(l0.length:Int):=of_decide_eq_true (by(with_reducible assumption))
         obtain⟨ad111,A111_1,c111_1,e111,hx111_0,hx111_1,hl111_1,hi111_1⟩:=at_T47 HR0.out x8_1 p111 q111
         cases e111
         replace hx111_0:=(HB.out.cell (World.block_lt_of_cell? w _ hx111_0)).trans hx111_0
         replace hx111_1:=(HB.out.cell (World.block_lt_of_cell? w _ hx111_1)).trans hx111_1
         have HR111_1:=Aside0.mk hi111_1
         have HC111_1:=Aside0.mk hl111_1
         clear hi111_1 hl111_1
         replace p111:=eq_true p111
         replace q111:=eq_true q111
         go_wp2_with(first|((with_reducible refine gate_dst (N:=5) rfl ?_);refine box_event ?hg (N:=5) ?hd (cs:= #[.int .i64 0, .slice none 0 0]) (t:=47) ?hr ?_;(case hd=>rfl);(case hg=>rfl);(case hr=>(go_simp;done));intro gb112 hg w15 hbox hb;have n0_:=Aside0.mk (Kd.R_below (by exact HO_2.out) hb);have n1_:=Aside0.mk (Kd.R_below (by exact HO_3.out) hb);have n2_:=Aside0.mk (below_step (by repeat((with_reducible exact HB.out))) hb);have n3_:=Aside0.mk (hbox);have n4_:=Aside0.mk ((by rw [hg];exact(below_size (by repeat((with_reducible exact HB.out)))):w.heap.size≤gb112));have n5_:=Aside0.mk ((by rw [hg];exact(below_size (by repeat((with_reducible exact HB.out)))):w.heap.size≤gb112));clear HO_2;clear HO_3;clear HB;have HO_2:=n0_;have HO_3:=n1_;have HB:=n2_;have BK112:=n3_;have GW112:=n4_;have GE112:=n5_;clear n0_ n1_ n2_ n3_ n4_ n5_;clear hb hbox hg;have hcz16_0:w15.cell? ⟨gb112,0,none⟩=some (.int .i64 0):=(blk_cell BK112.out 0).trans rfl;have hcz16_1:w15.cell? ⟨gb112,1,none⟩=some (.slice none 0 0):=(blk_cell BK112.out 1).trans rfl;have hfz16_0:=blk_frozen BK112.out 0;have hfz16_1:=blk_frozen BK112.out 1)|((with_reducible refine gate_builtin (b:= .append) (xs:= #[.tmp 22, .tmp 24]) rfl ?_);at_builtin;refine Kd.R_append_rows k66 (w0:=w) w.heap.size rfl (.tmp 22) (.tmp 24) 37 66 (.agg #[(.string ⟨#[]⟩),(.bool false)]) 24 rfl Try.underlying37 info66 rfl (by decide) (by omega) u2 x2_1 ((rd_T47 l0 x8_1).f1) _ _ _ (fun k_=>some k_≠(u3:Value).ownBlock) (fun _=>False) rfl rfl ?aO ?aR (fun _ _ h=>h) (fun _ h=>h.elim) ?aF ?aB ?aS ?aL ?_;(case aR=>exact Kd.C_below HR111_1.out (by repeat((with_reducible first|exact HB.out|refine below_set ?_ GE112.out))));(case aB=>exact(by repeat((with_reducible first|exact HB.out|refine below_set ?_ GE112.out))));(case aF=>exact(fun k_ hk=>Kd.fresh' (Kd.R_lt (by exact(Kd.R_mono (Kd.R_far (p:=⟨gb112,1,none⟩) (Kd.R_far (p:=⟨gb112,0,none⟩) (Kd.R_types HO_3.out BK112.out (by decide)) (fun _ hk=>hk.2) (.int .i64 ((rd_T47 l0 x8_1).f0))) (fun _ hk=>hk.2) (.slice A111_1 ((rd_T47 l0 x8_1).f1).length c111_1)) (fun _ h_=>h_.1)))) k_ hk));(case aO=>exact(by exact Kd.R_mono (Kd.R_far (p:=⟨gb112,1,none⟩) (Kd.R_far (p:=⟨gb112,0,none⟩) (Kd.R_types HO_2.out BK112.out (by decide)) (fun _ hk=>hk.2) (.int .i64 ((rd_T47 l0 x8_1).f0))) (fun _ hk=>hk.2) (.slice A111_1 ((rd_T47 l0 x8_1).f1).length c111_1)) (fun _ hk=>hk.1)));(case aS=>exact(below_size (by repeat((with_reducible first|exact HB.out|refine below_set ?_ GE112.out)))));(case aL=>have:=LMc14.out;omega);intro v120 w17 ho hb hg hat;rw [← Ny119.out] at ho;have n0_:=Aside0.mk (Kd.R_after (ok:=(fun _=>True)) (by exact Kd.R_mono (Kd.R_far (p:=⟨gb112,1,none⟩) (Kd.R_far (p:=⟨gb112,0,none⟩) (Kd.R_types HO_3.out BK112.out (by decide)) (fun _ hk=>hk.2) (.int .i64 ((rd_T47 l0 x8_1).f0))) (fun _ hk=>hk.2) (.slice A111_1 ((rd_T47 l0 x8_1).f1).length c111_1)) (fun _ hk=>⟨trivial,hk.1⟩)) hg hat);have n1_:=Aside0.mk (blk_grown (g:=gb112) (o:= .cells #[.int .i64 ((rd_T47 l0 x8_1).f0), .slice A111_1 ((rd_T47 l0 x8_1).f1).length c111_1] 47 (0,0)) (by refine blk_put (cs:= #[.int .i64 ((rd_T47 l0 x8_1).f0), .slice none 0 0]) ?_ 1 _ rfl;refine blk_put (cs:= #[.int .i64 0, .slice none 0 0]) ?_ 0 _ rfl;exact BK112.out) hg (Kd.R_ne HO_2.out BK112.out (by decide)));have n2_:=Aside0.mk (hb);have n3_:=Aside0.mk (ho);clear HO_3;clear BK112;clear HB;clear HO_2;have HO_3:=n0_;have BK112:=n1_;have HB:=n2_;have HO121:=n3_;clear n0_ n1_ n2_ n3_;clear ho hb hg hat))
         go_roundg k1
         case measure=>have:=HK1.out;omega
         case rel=>exact⟨(y119),(x3_1),(wrap64 (x8_1+1)),(by rfl),H',⟨by have:=HK1.out;omega⟩,⟨by exact HO121.out⟩,⟨by exact Kd.R_mono HO_3.out (fun _ hk=>hk.2)⟩,⟨by repeat((with_reducible exact HB.out))⟩⟩
        ·rw [if_neg c14] at H
         exact absurd H (by simp)
       ·rw [if_neg c13] at H
        have c13b0:(((rd_T47 l0 x8_1).f0)==2)=false:=beq_eq_false_iff_ne.mpr c13
        have c13b1:(((rd_T47 l0 x8_1).f0) != 2)=true:=bne_iff_ne.mpr c13
        by_cases c18:x3_1.length+((rd_T47 l0 x8_1).f1).length<5864062014805
        ·rw [if_pos c18] at H
         have LMc18:=Aside0.mk c18
         clear c18
         obtain⟨y122,hy122⟩: ∃y_:List (S66),y_=(x3_1++((rd_T47 l0 x8_1).f1)):=⟨_,rfl⟩
         replace H:(script_sides.l0 k1 x2_1 y122 l0 (l0.length:Int) (wrap64 (x8_1+1)))=some (r1,r2):=by(rw [hy122];with_reducible exact H)
         have Ny122:=Aside0.mk hy122
         clear hy122
         have H':=Aside0.mk H
         clear H
         have p111:0≤(x8_1:Int):=of_decide_eq_true (by(with_reducible assumption))
         have q111:x8_1<(l0.length:Int):=of_decide_eq_true (by(with_reducible assumption))
         obtain⟨ad111,A111_1,c111_1,e111,hx111_0,hx111_1,hl111_1,hi111_1⟩:=at_T47 HR0.out x8_1 p111 q111
         cases e111
         replace hx111_0:=(HB.out.cell (World.block_lt_of_cell? w _ hx111_0)).trans hx111_0
         replace hx111_1:=(HB.out.cell (World.block_lt_of_cell? w _ hx111_1)).trans hx111_1
         have HR111_1:=Aside0.mk hi111_1
         have HC111_1:=Aside0.mk hl111_1
         clear hi111_1 hl111_1
         replace p111:=eq_true p111
         replace q111:=eq_true q111
         go_wp2_with(first|((with_reducible refine gate_dst (N:=5) rfl ?_);refine box_event ?hg (N:=5) ?hd (cs:= #[.int .i64 0, .slice none 0 0]) (t:=47) ?hr ?_;(case hd=>rfl);(case hg=>rfl);(case hr=>(go_simp;done));intro gb112 hg w19 hbox hb;have n0_:=Aside0.mk (Kd.R_below (by exact HO_2.out) hb);have n1_:=Aside0.mk (Kd.R_below (by exact HO_3.out) hb);have n2_:=Aside0.mk (below_step (by repeat((with_reducible exact HB.out))) hb);have n3_:=Aside0.mk (hbox);have n4_:=Aside0.mk ((by rw [hg];exact(below_size (by repeat((with_reducible exact HB.out)))):w.heap.size≤gb112));have n5_:=Aside0.mk ((by rw [hg];exact(below_size (by repeat((with_reducible exact HB.out)))):w.heap.size≤gb112));clear HO_2;clear HO_3;clear HB;have HO_2:=n0_;have HO_3:=n1_;have HB:=n2_;have BK112:=n3_;have GW112:=n4_;have GE112:=n5_;clear n0_ n1_ n2_ n3_ n4_ n5_;clear hb hbox hg;have hcz20_0:w19.cell? ⟨gb112,0,none⟩=some (.int .i64 0):=(blk_cell BK112.out 0).trans rfl;have hcz20_1:w19.cell? ⟨gb112,1,none⟩=some (.slice none 0 0):=(blk_cell BK112.out 1).trans rfl;have hfz20_0:=blk_frozen BK112.out 0;have hfz20_1:=blk_frozen BK112.out 1)|((with_reducible refine gate_builtin (b:= .append) (xs:= #[.tmp 26, .tmp 28]) rfl ?_);at_builtin;refine Kd.R_append_rows k66 (w0:=w) w.heap.size rfl (.tmp 26) (.tmp 28) 37 66 (.agg #[(.string ⟨#[]⟩),(.bool false)]) 24 rfl Try.underlying37 info66 rfl (by decide) (by omega) u3 x3_1 ((rd_T47 l0 x8_1).f1) _ _ _ (fun k_=>some k_≠(u2:Value).ownBlock) (fun _=>False) rfl rfl ?aO ?aR (fun _ _ h=>h) (fun _ h=>h.elim) ?aF ?aB ?aS ?aL ?_;(case aR=>exact Kd.C_below HR111_1.out (by repeat((with_reducible first|exact HB.out|refine below_set ?_ GE112.out))));(case aB=>exact(by repeat((with_reducible first|exact HB.out|refine below_set ?_ GE112.out))));(case aF=>exact(fun k_ hk=>Kd.fresh' (Kd.R_lt (by exact(Kd.R_mono (Kd.R_far (p:=⟨gb112,1,none⟩) (Kd.R_far (p:=⟨gb112,0,none⟩) (Kd.R_types HO_2.out BK112.out (by decide)) (fun _ hk=>hk.2) (.int .i64 ((rd_T47 l0 x8_1).f0))) (fun _ hk=>hk.2) (.slice A111_1 ((rd_T47 l0 x8_1).f1).length c111_1)) (fun _ h_=>h_.1)))) k_ hk));(case aO=>exact(by exact Kd.R_mono (Kd.R_far (p:=⟨gb112,1,none⟩) (Kd.R_far (p:=⟨gb112,0,none⟩) (Kd.R_types HO_3.out BK112.out (by decide)) (fun _ hk=>hk.2) (.int .i64 ((rd_T47 l0 x8_1).f0))) (fun _ hk=>hk.2) (.slice A111_1 ((rd_T47 l0 x8_1).f1).length c111_1)) (fun _ hk=>hk.1)));(case aS=>exact(below_size (by repeat((with_reducible first|exact HB.out|refine below_set ?_ GE112.out)))));(case aL=>have:=LMc18.out;omega);intro v123 w21 ho hb hg hat;rw [← Ny122.out] at ho;have n0_:=Aside0.mk (Kd.R_after (ok:=(fun _=>True)) (by exact Kd.R_mono (Kd.R_far (p:=⟨gb112,1,none⟩) (Kd.R_far (p:=⟨gb112,0,none⟩) (Kd.R_types HO_2.out BK112.out (by decide)) (fun _ hk=>hk.2) (.int .i64 ((rd_T47 l0 x8_1).f0))) (fun _ hk=>hk.2) (.slice A111_1 ((rd_T47 l0 x8_1).f1).length c111_1)) (fun _ hk=>⟨trivial,hk.1⟩)) hg hat);have n1_:=Aside0.mk (blk_grown (g:=gb112) (o:= .cells #[.int .i64 ((rd_T47 l0 x8_1).f0), .slice A111_1 ((rd_T47 l0 x8_1).f1).length c111_1] 47 (0,0)) (by refine blk_put (cs:= #[.int .i64 ((rd_T47 l0 x8_1).f0), .slice none 0 0]) ?_ 1 _ rfl;refine blk_put (cs:= #[.int .i64 0, .slice none 0 0]) ?_ 0 _ rfl;exact BK112.out) hg (Kd.R_ne HO_3.out BK112.out (by decide)));have n2_:=Aside0.mk (hb);have n3_:=Aside0.mk (ho);clear HO_2;clear BK112;clear HB;clear HO_3;have HO_2:=n0_;have BK112:=n1_;have HB:=n2_;have HO124:=n3_;clear n0_ n1_ n2_ n3_;clear ho hb hg hat))
         go_roundg k1
         case measure=>have:=HK1.out;omega
         case rel=>exact⟨(x2_1),(y122),(wrap64 (x8_1+1)),(by rfl),H',⟨by have:=HK1.out;omega⟩,⟨by exact Kd.R_mono HO_2.out (fun _ hk=>hk.2)⟩,⟨by exact HO124.out⟩,⟨by repeat((with_reducible exact HB.out))⟩⟩
        ·rw [if_neg c18] at H
         exact absurd H (by simp)
     ·rw [if_neg c4] at H
      exact absurd H (by simp)
    ·rw [if_neg c3] at H
     exact absurd H (by simp)
   ·rw [if_neg c2] at H
    have c2b0:decide (x8_1<(l0.length:Int))=false:=decide_eq_false c2
    clear c2
    simp only [Option.some.injEq,Prod.mk.injEq] at H
    obtain⟨rfl,rfl⟩:=H
    go_wp2
    go_ret2
    exact⟨_,_,by rfl,by exact HO_2.out,by exact HO_3.out,by repeat((with_reducible exact HB.out))⟩
end Go.Proofs.Ytfnbodjmmkjlcaa.H
end
section
namespace Go.Proofs.Ytfnbodjmmkjlcaa.H
open Go.RowKit Go.Proofs.YtfnbodjmmkjlcaaW.PrintWords Go.Proofs.YtfnbodjmmkjlcaaW.PrintLast Go.Proofs.YtfnbodjmmkjlcaaW.PrintMore
attribute [local go_sem] max2_int min2_int max_two min_two max_three min_three max_four min_four
set_option linter.unusedVariables false
set_option linter.unusedSimpArgs false
def script_Sides.f (k:Nat) (l0:List (S47)):Option ((List (S66))×(List (S66))×Int):=(script_Check.f k l0).bind fun t125=>(if t125=0 then ((script_sides.f k l0).bind fun bt126=>(some (bt126.1,bt126.2,0))) else (some (([]:List (S66)),([]:List (S66)),t125)))
theorem script_Sides.mono: ∀a0 k,LeO (script_Sides.f k a0) (script_Sides.f (k+1) a0):=by
 intro a0 k
 unfold script_Sides.f
 repeat' first
   | (with_reducible exact script_Check.mono _ _)
   | (with_reducible exact script_sides.mono _ _)
   | (with_reducible exact LeO.refl _)
   | (with_reducible exact LeO.none _)
   | (with_reducible refine LeO.ite ?_ ?_)
   | (with_reducible refine LeO.bind ?_ (fun _=>?_))
   | exact script_Check.mono _ _
   | exact script_sides.mono _ _
   | exact LeO.none _
   | refine LeO.ite ?_ ?_
   | refine LeO.bind ?_ (fun _=>?_)
set_option maxHeartbeats 8000000 in
set_option maxRecDepth 100000 in
theorem script_Sides.calls (k:Nat) (A0:Option Addr) (c0:Nat) (l0:List (S47)) (r1:List (S66)) (r2:List (S66)) (r3:Int) (w:World) (hr0:Kd.C k47 w A0 l0.length l0) (hc0:l0.length≤c0) (h:script_Sides.f k l0=some (r1,r2,r3)):
  Calls Try.prog 55 #[.slice A0 l0.length c0] w fun e w'=> ∃v0_ v1_:Value,e= .returned (.tuple #[v0_,v1_, .int .i64 r3])∧Kd.R k66 66 w' w.heap.size (fun k_=>some k_≠(v1_:Value).ownBlock) v0_ r1∧Kd.R k66 66 w' w.heap.size (fun k_=>some k_≠(v0_:Value).ownBlock) v1_ r2∧Below w.heap.size w w':=by
 have HR0:=Aside0.mk hr0
 have HC0:=Aside0.mk hc0
 clear hr0 hc0
 have HB:=Aside0.mk (Below.refl w.heap.size w)
 have H:((script_Check.f k l0).bind fun t125=>(if t125=0 then ((script_sides.f k l0).bind fun bt126=>(some (bt126.1,bt126.2,0))) else (some (([]:List (S66)),([]:List (S66)),t125))))=some (r1,r2,r3):=h
 clear h
 replace H:=Option.bind_eq_some_iff.mp H
 obtain⟨t125,A20,H⟩:=H
 replace H:(if t125=0 then ((script_sides.f k l0).bind fun bt126=>(some (bt126.1,bt126.2,0))) else (some (([]:List (S66)),([]:List (S66)),t125)))=some (r1,r2,r3):=H
 have A2:=Aside0.mk A20
 clear A20
 by_cases c3:t125=0
 ·rw [if_pos c3] at H
  have c3b0:(t125==0)=true:=beq_iff_eq.mpr c3
  have c3b1:(t125 != 0)=false:=bne_eq_false_iff_eq.mpr c3
  clear c3
  replace H:=Option.bind_eq_some_iff.mp H
  obtain⟨⟨t126,t127⟩,A40,H⟩:=H
  replace H:(some (t126,t127,0))=some (r1,r2,r3):=H
  have A4:=Aside0.mk A40
  clear A40
  simp only [Option.some.injEq,Prod.mk.injEq] at H
  obtain⟨rfl,rfl,rfl⟩:=H
  go_enter Try.func55,Try.ntmps55
  go_wp2_with(first|((with_reducible refine gate_callee (f:=49) rfl ?_);refine goesL_ (some 9) rfl rfl Try.func49 (by kernel_rfl) rfl #[.slice A0 l0.length c0] rfl (by(try simp only [List.map_toArray,List.map_cons,List.map_nil]);rfl) ?_;(with_reducible refine(script_Check.calls k _ _ l0 t125 _ ?side1 ?side2 A2.out).mono ?_);(case side1=>repeat(exact HR0.out));(case side2=>exact HC0.out);rintro e w5 ⟨rfl,hb⟩;refine⟨_,rfl,?_⟩;have n0_:=Aside0.mk (below_step (by repeat((with_reducible exact HB.out))) hb);clear HB;have HB:=n0_;clear n0_;(try clear hb))|((with_reducible refine gate_callee (f:=73) rfl ?_);refine goesL_ (some 15) rfl rfl Try.func73 (by kernel_rfl) rfl #[.slice A0 l0.length c0] rfl (by(try simp only [List.map_toArray,List.map_cons,List.map_nil]);rfl) ?_;(with_reducible refine(script_sides.calls k _ _ l0 t126 t127 _ ?side1 ?side2 A4.out).mono ?_);(case side1=>repeat(exact(Kd.C_below HR0.out HB.out)));(case side2=>exact HC0.out);rintro e w6 ⟨v128,v130,rfl,ho0,ho1,hb⟩;refine⟨_,rfl,?_⟩;have n0_:=Aside0.mk (Kd.R_lower ho0 (below_size (by repeat((with_reducible exact HB.out)))));have n1_:=Aside0.mk (Kd.R_lower ho1 (below_size (by repeat((with_reducible exact HB.out)))));have n2_:=Aside0.mk (below_step (by repeat((with_reducible exact HB.out))) hb);clear HB;have HO129:=n0_;have HO131:=n1_;have HB:=n2_;clear n0_ n1_ n2_;(try clear hb);(try clear ho0);(try clear ho1)))
  go_ret3
  exact⟨_,_,by rfl,by exact HO129.out,by exact HO131.out,by repeat((with_reducible exact HB.out))⟩
 ·rw [if_neg c3] at H
  have c3b0:(t125==0)=false:=beq_eq_false_iff_ne.mpr c3
  have c3b1:(t125 != 0)=true:=bne_iff_ne.mpr c3
  simp only [Option.some.injEq,Prod.mk.injEq] at H
  obtain⟨rfl,rfl,rfl⟩:=H
  go_enter Try.func55,Try.ntmps55
  go_wp2_with(((with_reducible refine gate_callee (f:=49) rfl ?_);refine goesL_ (some 9) rfl rfl Try.func49 (by kernel_rfl) rfl #[.slice A0 l0.length c0] rfl (by(try simp only [List.map_toArray,List.map_cons,List.map_nil]);rfl) ?_;(with_reducible refine(script_Check.calls k _ _ l0 t125 _ ?side1 ?side2 A2.out).mono ?_);(case side1=>repeat(exact HR0.out));(case side2=>exact HC0.out);rintro e w7 ⟨rfl,hb⟩;refine⟨_,rfl,?_⟩;have n0_:=Aside0.mk (below_step (by repeat((with_reducible exact HB.out))) hb);clear HB;have HB:=n0_;clear n0_;(try clear hb)))
  go_ret3
  exact⟨_,_,by rfl,by exact Kd.R_nil _ _ _ _ _,by exact Kd.R_nil _ _ _ _ _,by repeat((with_reducible exact HB.out))⟩
end Go.Proofs.Ytfnbodjmmkjlcaa.H
end
section
namespace Go.Proofs.Ytfnbodjmmkjlcaa.H
open Go.RowKit Go.Proofs.YtfnbodjmmkjlcaaW.PrintWords Go.Proofs.YtfnbodjmmkjlcaaW.PrintLast Go.Proofs.YtfnbodjmmkjlcaaW.PrintMore
attribute [local go_sem] max2_int min2_int max_two min_two max_three min_three max_four min_four
set_option linter.unusedVariables false
set_option linter.unusedSimpArgs false
def hunk_Build.lead (c:Nat) (ah:List S66):List S47:=if 0<min c ah.length then [⟨1,ah.drop (ah.length-min c ah.length)⟩] else []
def hunk_Build.trail (c:Nat) (l:List S66):List S47:=if 0<min c l.length then [⟨1,l.take (min c l.length)⟩] else []
structure hunk_Build.St where
  out:List S44
  now:List S47
  ah:List S66
def hunk_Build.mnn (a b:Nat):Nat:=min a b
theorem hunk_Build.min2 (k k':IntKind) (x y:Nat):Builtin.min2 (.int k (x:Int)) (.int k' (y:Int))=pure (.int k ((hunk_Build.mnn x y:Nat):Int)):=by
  rw [min2_int]
  unfold hunk_Build.mnn
  congr 2
  split<;>omega
attribute [local go_sem 3000] hunk_Build.min2
theorem hunk_Build.infoH:(Try.prog.info? 44).map (fun i=>(i.zero,i.size,i.bytes))=some (some (.agg #[(.int .i64 0),(.int .i64 0),(.int .i64 0),(.int .i64 0),(.slice none 0 0)]),5,56):=by kernel_rfl
def hunk_Build.hk (k:Nat) (now:List S47):Option S44:=(script_Sides.f k now).bind fun t=>some ⟨0,(t.1.length:Int),0,(t.2.1.length:Int),now⟩
end Go.Proofs.Ytfnbodjmmkjlcaa.H
end
section
namespace Go.Proofs.Ytfnbodjmmkjlcaa.H
open Go.RowKit Go.Proofs.YtfnbodjmmkjlcaaW.PrintWords Go.Proofs.YtfnbodjmmkjlcaaW.PrintLast Go.Proofs.YtfnbodjmmkjlcaaW.PrintMore
attribute [local go_sem] max2_int min2_int max_two min_two max_three min_three max_four min_four
set_option linter.unusedVariables false
set_option linter.unusedSimpArgs false
mutual
def jalousieref08_Check.l0:Nat→List (S47)→Int→Int→Option (Int)
 | 0,_,_,_=>none
 | k+1,x0,x3,x4=>if x4<(x0.length:Int) then (if 0≤x4 then (if (((rd_T47 x0 x4).f1).length:Int)>(wrap64 (800-x3)) then (some 4) else (jalousieref08_Check.l0 k x0 (wrap64 (x3+(((rd_T47 x0 x4).f1).length:Int))) (wrap64 (x4+1)))) else (none)) else (jalousieref08_Check.l1 k x0 0)
def jalousieref08_Check.l1:Nat→List (S47)→Int→Option (Int)
 | 0,_,_=>none
 | k+1,x0,x5=>if x5<(x0.length:Int) then (if 0≤x5 then (if ((rd_T47 x0 x5).f0)=1 then (jalousieref08_Check.l1 k x0 (wrap64 (x5+1))) else (if ((rd_T47 x0 x5).f0)=2 then (jalousieref08_Check.l1 k x0 (wrap64 (x5+1))) else (if ((rd_T47 x0 x5).f0)=3 then (jalousieref08_Check.l1 k x0 (wrap64 (x5+1))) else (some 3)))) else (none)) else (some 0)
end
def jalousieref08_Check.f (k:Nat) (l0:List (S47)):Option (Int):=if (l0.length:Int)>800 then (some 4) else (jalousieref08_Check.l0 k l0 0 0)
set_option maxHeartbeats 8000000 in
set_option maxRecDepth 100000 in
theorem jalousieref08_Check.calls (k:Nat) (A0:Option Addr) (c0:Nat) (l0:List (S47)) (r:Int) (w:World) (hr0:Kd.C k47 w A0 l0.length l0) (hc0:l0.length≤c0) (h:jalousieref08_Check.f k l0=some r):
  Calls Try.prog 26 #[.slice A0 l0.length c0] w fun e w'=>e= .returned (.int .i64 r)∧Drawn0 w w':=by
 have HR0:=Aside0.mk hr0
 have HC0:=Aside0.mk hc0
 clear hr0 hc0
 have H:(if (l0.length:Int)>800 then (some 4) else (jalousieref08_Check.l0 k l0 0 0))=some r:=h
 clear h
 by_cases c2:(l0.length:Int)>800
 ·rw [if_pos c2] at H
  have c2b0:decide (800<(l0.length:Int))=true:=decide_eq_true c2
  have c2b1:decide (800<l0.length)=true:=decide_eq_true (by omega)
  clear c2
  obtain rfl:=Option.some.inj H
  go_enter Try.func26,Try.ntmps26
  go_wp2
  go_ret
  exact⟨by rfl,by repeat(exact Drawn0.refl _)⟩
 ·rw [if_neg c2] at H
  have c2b0:decide (800<(l0.length:Int))=false:=decide_eq_false c2
  have c2b1:decide (800<l0.length)=false:=decide_eq_false (by omega)
  clear c2
  have H':=Aside0.mk H
  clear H
  go_enter Try.func26,Try.ntmps26
  go_wp2
  go_loopg [3,4] k (fun kq v3 v4 w'=> ∃(x3_1:Int) (x4_1:Int),v3= .int .i64 x3_1∧v4= .int .i64 x4_1∧Aside0 (jalousieref08_Check.l0 kq l0 x3_1 x4_1=some r)∧Aside0 (kq≤k)∧Drawn0 w w')
  case atStart=>exact⟨(0),(0),(by rfl),(by rfl),H',⟨Nat.le_refl _⟩,by repeat(exact Drawn0.refl _)⟩
  case round=>
   clear H'
   try clear c2b0
   try clear c2b1
   obtain⟨x3_1,x4_1,rfl,rfl,HA,HK1,⟨m1,rfl⟩⟩:=hrel
   cases gk with
   | zero=>exact absurd HA.out (by simp [jalousieref08_Check.l0])
   | succ k1=>
    have H:=HA.out
    clear HA
    simp only [jalousieref08_Check.l0] at H
    by_cases c3:x4_1<(l0.length:Int)
    ·rw [if_pos c3] at H
     have c3b0:decide (x4_1<(l0.length:Int))=true:=decide_eq_true c3
     clear c3
     by_cases c4:0≤x4_1
     ·rw [if_pos c4] at H
      have c4b0:decide (0≤x4_1)=true:=decide_eq_true c4
      clear c4
      by_cases c5:(((rd_T47 l0 x4_1).f1).length:Int)>(wrap64 (800-x3_1))
      ·rw [if_pos c5] at H
       have c5b0:decide ((wrap64 (800-x3_1))<(((rd_T47 l0 x4_1).f1).length:Int))=true:=decide_eq_true c5
       clear c5
       obtain rfl:=Option.some.inj H
       have p229:0≤(x4_1:Int):=of_decide_eq_true (by(with_reducible assumption))
       have q229:x4_1<(l0.length:Int):=of_decide_eq_true (by(with_reducible assumption))
       obtain⟨ad229,A229_1,c229_1,e229,hx229_0,hx229_1,hl229_1,hi229_1⟩:=at_T47 HR0.out x4_1 p229 q229
       cases e229
       have HR229_1:=Aside0.mk hi229_1
       have HC229_1:=Aside0.mk hl229_1
       clear hi229_1 hl229_1
       replace p229:=eq_true p229
       replace q229:=eq_true q229
       go_wp2
       go_ret
       exact⟨by rfl,by repeat(first|exact Drawn0.refl _|apply Drawn0.step)⟩
      ·rw [if_neg c5] at H
       have c5b0:decide ((wrap64 (800-x3_1))<(((rd_T47 l0 x4_1).f1).length:Int))=false:=decide_eq_false c5
       clear c5
       have H':=Aside0.mk H
       clear H
       have p229:0≤(x4_1:Int):=of_decide_eq_true (by(with_reducible assumption))
       have q229:x4_1<(l0.length:Int):=of_decide_eq_true (by(with_reducible assumption))
       obtain⟨ad229,A229_1,c229_1,e229,hx229_0,hx229_1,hl229_1,hi229_1⟩:=at_T47 HR0.out x4_1 p229 q229
       cases e229
       have HR229_1:=Aside0.mk hi229_1
       have HC229_1:=Aside0.mk hl229_1
       clear hi229_1 hl229_1
       replace p229:=eq_true p229
       replace q229:=eq_true q229
       have p230:0≤(x4_1:Int):=of_decide_eq_true (by(with_reducible assumption))
       have q230:x4_1<(l0.length:Int):=of_decide_eq_true (by(with_reducible assumption))
       obtain⟨ad230,A230_1,c230_1,e230,hx230_0,hx230_1,hl230_1,hi230_1⟩:=at_T47 HR0.out x4_1 p230 q230
       obtain rfl:ad229=ad230:=(by injection e230)
       have HR230_1:=Aside0.mk hi230_1
       have HC230_1:=Aside0.mk hl230_1
       clear hi230_1 hl230_1
       replace p230:=eq_true p230
       replace q230:=eq_true q230
       have ea_:=Option.some.inj (hx229_1.symm.trans hx230_1)
       injection ea_ with ea_ en_ ec_
       subst ea_
       subst ec_
       clear en_
       go_wp2
       go_roundg k1
       case measure=>have:=HK1.out;omega
       case rel=>exact⟨(wrap64 (x3_1+(((rd_T47 l0 x4_1).f1).length:Int))),(wrap64 (x4_1+1)),(by rfl),(by rfl),H',⟨by have:=HK1.out;omega⟩,by repeat(first|exact Drawn0.refl _|apply Drawn0.step)⟩
     ·rw [if_neg c4] at H
      exact absurd H (by simp)
    ·rw [if_neg c3] at H
     have c3b0:decide (x4_1<(l0.length:Int))=false:=decide_eq_false c3
     clear c3
     have H':=Aside0.mk H
     clear H
     go_wp2
     go_loopg [5] k1 (fun kq v5 w'=> ∃(x5_2:Int),v5= .int .i64 x5_2∧Aside0 (jalousieref08_Check.l1 kq l0 x5_2=some r)∧Aside0 (kq≤k1)∧Drawn0 w w')
     case atStart=>exact⟨(0),(by rfl),H',⟨Nat.le_refl _⟩,by repeat(first|exact Drawn0.refl _|apply Drawn0.step)⟩
     case round=>
      clear H'
      try clear c3b0
      obtain⟨x5_2,rfl,HA,HK2,⟨m2,rfl⟩⟩:=hrel
      cases gk with
      | zero=>exact absurd HA.out (by simp [jalousieref08_Check.l1])
      | succ k2=>
       have H:=HA.out
       clear HA
       simp only [jalousieref08_Check.l1] at H
       by_cases c6:x5_2<(l0.length:Int)
       ·rw [if_pos c6] at H
        have c6b0:decide (x5_2<(l0.length:Int))=true:=decide_eq_true c6
        clear c6
        by_cases c7:0≤x5_2
        ·rw [if_pos c7] at H
         have c7b0:decide (0≤x5_2)=true:=decide_eq_true c7
         clear c7
         by_cases c8:((rd_T47 l0 x5_2).f0)=1
         ·rw [if_pos c8] at H
          have c8b0:(((rd_T47 l0 x5_2).f0)==1)=true:=beq_iff_eq.mpr c8
          have c8b1:(((rd_T47 l0 x5_2).f0) != 1)=false:=bne_eq_false_iff_eq.mpr c8
          clear c8
          have H':=Aside0.mk H
          clear H
          have p231:0≤(x5_2:Int):=of_decide_eq_true (by(with_reducible assumption))
          have q231:x5_2<(l0.length:Int):=of_decide_eq_true (by(with_reducible assumption))
          obtain⟨ad231,A231_1,c231_1,e231,hx231_0,hx231_1,hl231_1,hi231_1⟩:=at_T47 HR0.out x5_2 p231 q231
          cases e231
          have HR231_1:=Aside0.mk hi231_1
          have HC231_1:=Aside0.mk hl231_1
          clear hi231_1 hl231_1
          replace p231:=eq_true p231
          replace q231:=eq_true q231
          go_wp2
          go_roundg k2
          case measure=>have:=HK1.out;have:=HK2.out;omega
          case rel=>exact⟨(wrap64 (x5_2+1)),(by rfl),H',⟨by have:=HK1.out;have:=HK2.out;omega⟩,by repeat(first|exact Drawn0.refl _|apply Drawn0.step)⟩
         ·rw [if_neg c8] at H
          have c8b0:(((rd_T47 l0 x5_2).f0)==1)=false:=beq_eq_false_iff_ne.mpr c8
          have c8b1:(((rd_T47 l0 x5_2).f0) != 1)=true:=bne_iff_ne.mpr c8
          by_cases c9:((rd_T47 l0 x5_2).f0)=2
          ·rw [if_pos c9] at H
           have c9b0:(((rd_T47 l0 x5_2).f0)==2)=true:=beq_iff_eq.mpr c9
           have c9b1:(((rd_T47 l0 x5_2).f0) != 2)=false:=bne_eq_false_iff_eq.mpr c9
           clear c9
           have H':=Aside0.mk H
           clear H
           have p231:0≤(x5_2:Int):=of_decide_eq_true (by(with_reducible assumption))
           have q231:x5_2<(l0.length:Int):=of_decide_eq_true (by(with_reducible assumption))
           obtain⟨ad231,A231_1,c231_1,e231,hx231_0,hx231_1,hl231_1,hi231_1⟩:=at_T47 HR0.out x5_2 p231 q231
           cases e231
           have HR231_1:=Aside0.mk hi231_1
           have HC231_1:=Aside0.mk hl231_1
           clear hi231_1 hl231_1
           replace p231:=eq_true p231
           replace q231:=eq_true q231
           have p232:0≤(x5_2:Int):=of_decide_eq_true (by(with_reducible assumption))
           have q232:x5_2<(l0.length:Int):=of_decide_eq_true (by(with_reducible assumption))
           obtain⟨ad232,A232_1,c232_1,e232,hx232_0,hx232_1,hl232_1,hi232_1⟩:=at_T47 HR0.out x5_2 p232 q232
           obtain rfl:ad231=ad232:=(by injection e232)
           have HR232_1:=Aside0.mk hi232_1
           have HC232_1:=Aside0.mk hl232_1
           clear hi232_1 hl232_1
           replace p232:=eq_true p232
           replace q232:=eq_true q232
           have ea_:=Option.some.inj (hx231_1.symm.trans hx232_1)
           injection ea_ with ea_ en_ ec_
           subst ea_
           subst ec_
           clear en_
           go_wp2
           go_roundg k2
           case measure=>have:=HK1.out;have:=HK2.out;omega
           case rel=>exact⟨(wrap64 (x5_2+1)),(by rfl),H',⟨by have:=HK1.out;have:=HK2.out;omega⟩,by repeat(first|exact Drawn0.refl _|apply Drawn0.step)⟩
          ·rw [if_neg c9] at H
           have c9b0:(((rd_T47 l0 x5_2).f0)==2)=false:=beq_eq_false_iff_ne.mpr c9
           have c9b1:(((rd_T47 l0 x5_2).f0) != 2)=true:=bne_iff_ne.mpr c9
           by_cases c10:((rd_T47 l0 x5_2).f0)=3
           ·rw [if_pos c10] at H
            have c10b0:(((rd_T47 l0 x5_2).f0)==3)=true:=beq_iff_eq.mpr c10
            have c10b1:(((rd_T47 l0 x5_2).f0) != 3)=false:=bne_eq_false_iff_eq.mpr c10
            clear c10
            have H':=Aside0.mk H
            clear H
            have p231:0≤(x5_2:Int):=of_decide_eq_true (by(with_reducible assumption))
            have q231:x5_2<(l0.length:Int):=of_decide_eq_true (by(with_reducible assumption))
            obtain⟨ad231,A231_1,c231_1,e231,hx231_0,hx231_1,hl231_1,hi231_1⟩:=at_T47 HR0.out x5_2 p231 q231
            cases e231
            have HR231_1:=Aside0.mk hi231_1
            have HC231_1:=Aside0.mk hl231_1
            clear hi231_1 hl231_1
            replace p231:=eq_true p231
            replace q231:=eq_true q231
            have p232:0≤(x5_2:Int):=of_decide_eq_true (by(with_reducible assumption))
            have q232:x5_2<(l0.length:Int):=of_decide_eq_true (by(with_reducible assumption))
            obtain⟨ad232,A232_1,c232_1,e232,hx232_0,hx232_1,hl232_1,hi232_1⟩:=at_T47 HR0.out x5_2 p232 q232
            obtain rfl:ad231=ad232:=(by injection e232)
            have HR232_1:=Aside0.mk hi232_1
            have HC232_1:=Aside0.mk hl232_1
            clear hi232_1 hl232_1
            replace p232:=eq_true p232
            replace q232:=eq_true q232
            have ea_:=Option.some.inj (hx231_1.symm.trans hx232_1)
            injection ea_ with ea_ en_ ec_
            subst ea_
            subst ec_
            clear en_
            have p233:0≤(x5_2:Int):=of_decide_eq_true (by(with_reducible assumption))
            have q233:x5_2<(l0.length:Int):=of_decide_eq_true (by(with_reducible assumption))
            obtain⟨ad233,A233_1,c233_1,e233,hx233_0,hx233_1,hl233_1,hi233_1⟩:=at_T47 HR0.out x5_2 p233 q233
            obtain rfl:ad231=ad233:=(by injection e233)
            have HR233_1:=Aside0.mk hi233_1
            have HC233_1:=Aside0.mk hl233_1
            clear hi233_1 hl233_1
            replace p233:=eq_true p233
            replace q233:=eq_true q233
            have ea_:=Option.some.inj (hx231_1.symm.trans hx233_1)
            injection ea_ with ea_ en_ ec_
            subst ea_
            subst ec_
            clear en_
            go_wp2
            go_roundg k2
            case measure=>have:=HK1.out;have:=HK2.out;omega
            case rel=>exact⟨(wrap64 (x5_2+1)),(by rfl),H',⟨by have:=HK1.out;have:=HK2.out;omega⟩,by repeat(first|exact Drawn0.refl _|apply Drawn0.step)⟩
           ·rw [if_neg c10] at H
            have c10b0:(((rd_T47 l0 x5_2).f0)==3)=false:=beq_eq_false_iff_ne.mpr c10
            have c10b1:(((rd_T47 l0 x5_2).f0) != 3)=true:=bne_iff_ne.mpr c10
            obtain rfl:=Option.some.inj H
            have p231:0≤(x5_2:Int):=of_decide_eq_true (by(with_reducible assumption))
            have q231:x5_2<(l0.length:Int):=of_decide_eq_true (by(with_reducible assumption))
            obtain⟨ad231,A231_1,c231_1,e231,hx231_0,hx231_1,hl231_1,hi231_1⟩:=at_T47 HR0.out x5_2 p231 q231
            cases e231
            have HR231_1:=Aside0.mk hi231_1
            have HC231_1:=Aside0.mk hl231_1
            clear hi231_1 hl231_1
            replace p231:=eq_true p231
            replace q231:=eq_true q231
            have p232:0≤(x5_2:Int):=of_decide_eq_true (by(with_reducible assumption))
            have q232:x5_2<(l0.length:Int):=of_decide_eq_true (by(with_reducible assumption))
            obtain⟨ad232,A232_1,c232_1,e232,hx232_0,hx232_1,hl232_1,hi232_1⟩:=at_T47 HR0.out x5_2 p232 q232
            obtain rfl:ad231=ad232:=(by injection e232)
            have HR232_1:=Aside0.mk hi232_1
            have HC232_1:=Aside0.mk hl232_1
            clear hi232_1 hl232_1
            replace p232:=eq_true p232
            replace q232:=eq_true q232
            have ea_:=Option.some.inj (hx231_1.symm.trans hx232_1)
            injection ea_ with ea_ en_ ec_
            subst ea_
            subst ec_
            clear en_
            have p233:0≤(x5_2:Int):=of_decide_eq_true (by(with_reducible assumption))
            have q233:x5_2<(l0.length:Int):=of_decide_eq_true (by(with_reducible assumption))
            obtain⟨ad233,A233_1,c233_1,e233,hx233_0,hx233_1,hl233_1,hi233_1⟩:=at_T47 HR0.out x5_2 p233 q233
            obtain rfl:ad231=ad233:=(by injection e233)
            have HR233_1:=Aside0.mk hi233_1
            have HC233_1:=Aside0.mk hl233_1
            clear hi233_1 hl233_1
            replace p233:=eq_true p233
            replace q233:=eq_true q233
            have ea_:=Option.some.inj (hx231_1.symm.trans hx233_1)
            injection ea_ with ea_ en_ ec_
            subst ea_
            subst ec_
            clear en_
            go_wp2
            go_ret
            exact⟨by rfl,by repeat(first|exact Drawn0.refl _|apply Drawn0.step)⟩
        ·rw [if_neg c7] at H
         exact absurd H (by simp)
       ·rw [if_neg c6] at H
        have c6b0:decide (x5_2<(l0.length:Int))=false:=decide_eq_false c6
        clear c6
        obtain rfl:=Option.some.inj H
        go_wp2
        go_ret
        exact⟨by rfl,by repeat(first|exact Drawn0.refl _|apply Drawn0.step)⟩
end Go.Proofs.Ytfnbodjmmkjlcaa.H
end
section
namespace Go.Proofs.Ytfnbodjmmkjlcaa.H
open Go.RowKit Go.Proofs.YtfnbodjmmkjlcaaW.PrintWords Go.Proofs.YtfnbodjmmkjlcaaW.PrintLast Go.Proofs.YtfnbodjmmkjlcaaW.PrintMore
attribute [local go_sem] max2_int min2_int max_two min_two max_three min_three max_four min_four
set_option linter.unusedVariables false
set_option linter.unusedSimpArgs false
def jalousieref08_lay.p (s:List S47) (d:Int) (l:List S66):List S47:=if l.length=0 then s else s++ [⟨d,l⟩]
set_option maxHeartbeats 4000000 in
set_option maxRecDepth 100000 in
theorem jalousieref08_lay.owned (B:Nat) (ok:Nat→Prop) (s:List S47) (d:Int) (l:List S66) (vs:Value) (A:Option Addr) (c:Nat) (w:World) (hs:Kd.S k47 47 w B ok vs s) (hfr: ∀k,w.heap.size≤k→ok k)
  (hl:Kd.C k66 w A l.length l) (hc:l.length≤c) (h1:s.length≤1000000000) (h2:l.length≤1000000000) (hB:B≤w.heap.size):
  Calls Try.prog 53 #[vs, .int .i64 d, .slice A l.length c] w fun e w'=> ∃v1:Value,e= .returned v1∧Kd.S k47 47 w' B ok v1 (jalousieref08_lay.p s d l)∧w.grownBy w' vs.ownBlock∧(v1.ownBlock=vs.ownBlock∨ ∃b,v1.ownBlock=some b∧w.heap.size≤b)∧Below B w w':=by
 obtain⟨A1,c1,rfl⟩:=Kd.R_slice (Kd.S_R hs)
 have HS:=Aside0.mk hs
 have HL:=Aside0.mk hl
 have HC:=Aside0.mk hc
 by_cases hl0:l.length=0
 ·have hl0':(((l.length:Nat):Int)==0)=true:=beq_iff_eq.mpr (by omega)
  have hr:jalousieref08_lay.p s d l=s:=if_pos hl0
  rw [hr]
  clear hr hs hl hc
  go_enter Try.func53,Try.ntmps53
  go_wp2
  go_ret
  exact⟨_,rfl,HS.out,grown_of_below (Below.refl _ _) _, .inl rfl,Below.refl _ _⟩
 ·have hl0':(((l.length:Nat):Int)==0)=false:=beq_eq_false_iff_ne.mpr (by omega)
  have hr:jalousieref08_lay.p s d l=s++ [⟨d,l⟩]:=if_neg hl0
  rw [hr]
  clear hr hs hl hc hl0
  go_enter Try.func53,Try.ntmps53
  go_wp2_with(first|((with_reducible refine gate_dst (N:=13) rfl ?_);refine Kd.R_lit k66 w.heap.size 66 ?hg (N:=13) ?hd (xs:= []) (inner:= []) (ok:=fun _=>True) (okp:=fun _=>True) ?hr ?hp (fun _ hk=>hk) trivial (Below.refl w.heap.size w) (Nat.le_refl _) (by simp) ?_;(case hd=>rfl);(case hg=>rfl);(case hr=>(go_simp;done));(case hp=>exact Reps.none _ _);intro v1 w1 ho hb hg_ hnew_;have HO:=Aside0.mk ho;have HB1:=Aside0.mk hb;clear ho hb hg_ hnew_)|((with_reducible refine gate_builtin (b:= .append) (xs:= #[.tmp 13, .tmp 14]) rfl ?_);at_builtin;refine Kd.R_append_rows k66 (w0:=w) w.heap.size rfl (.tmp 13) (.tmp 14) 37 66 (.agg #[(.string ⟨#[]⟩),(.bool false)]) 24 rfl Try.underlying37 info66 rfl (by decide) (by omega) v1 [] l _ _ _ (fun _=>True) (fun _=>False) rfl rfl HO.out (Kd.C_below HL.out HB1.out) (fun _ _ h=>h) (fun _ h=>h.elim) (fun _ _=>trivial) HB1.out HB1.out.size ?aL ?_;(case aL=>simp only [List.length_nil];omega);intro v2 w2 ho hb hg hat;obtain⟨A2,c2,rfl⟩:=Kd.R_slice ho;have HO2:=Aside0.mk ho;have HB2:=Aside0.mk hb;clear ho hb hg hat)|((with_reducible refine gate_builtin (b:= .append) (xs:= #[.tmp 11, .tmp 17]) rfl ?_);at_builtin;refine Kd.S_append k47 (w0:=w) B rfl (.tmp 11) (.tmp 17) 22 47 (.agg #[(.int .i64 0),(.slice none 0 0)]) 32 rfl Try.underlying22 info47 rfl (by decide) (by omega) (.slice A1 s.length c1) s (⟨d,l⟩:S47) [.int .i64 d, .slice A2 l.length c2] ok (fun k=>w.heap.size≤k∧k<w2.heap.size) rfl rfl ?aP ?aK ?aF ?aO ?aB ?aS ?aL ?_;(case aP=>exact k47_mkM _ _ _ (⟨d,l⟩:S47) (Kd.R_lower (Kd.R_mono (Kd.R_bound HO2.out) (fun k hk=>⟨hk.2.1,hk.2.2.1⟩)) hB));(case aK=>exact fun k hk=>⟨hfr k hk.1,fun e=>by have:=Kd.S_lt HS.out k e.symm;omega⟩);(case aF=>exact fun k hk=>hfr k (Nat.le_trans HB2.out.size hk));(case aO=>exact Kd.S_mono (Kd.S_below (Kd.S_bound HS.out) HB2.out) (fun k hk=>⟨hk.1,fun h=>by have:=hk.2.2.1;omega⟩));(case aB=>exact HB2.out.mono hB);(case aS=>exact Nat.le_trans hB HB2.out.size);(case aL=>omega);intro v4 w4 ho hb hg hat))
  go_ret
  refine⟨_,rfl,ho,?_,?_,hb⟩
  ·exact World.grownBy.trans (grown_of_below HB2.out _) hg
  ·rcases hat with h|⟨b,h,h'⟩
   ·exact .inl h
   ·exact .inr ⟨b,h,Nat.le_trans HB2.out.size h'⟩
end Go.Proofs.Ytfnbodjmmkjlcaa.H
end
section
namespace Go.Proofs.Ytfnbodjmmkjlcaa.H
open Go.RowKit Go.Proofs.YtfnbodjmmkjlcaaW.PrintWords Go.Proofs.YtfnbodjmmkjlcaaW.PrintLast Go.Proofs.YtfnbodjmmkjlcaaW.PrintMore
attribute [local go_sem] max2_int min2_int max_two min_two max_three min_three max_four min_four
set_option linter.unusedVariables false
set_option linter.unusedSimpArgs false
structure jalousieref08_Normal.Q where
 out:List S47
 keep:List S66
 gone:List S66
 made:List S66
def jalousieref08_Normal.fin (q:jalousieref08_Normal.Q):List S47:=jalousieref08_lay.p (jalousieref08_lay.p (jalousieref08_lay.p q.out 1 q.keep) 2 q.gone) 3 q.made
def jalousieref08_Normal.pre (q:jalousieref08_Normal.Q) (x:S47):jalousieref08_Normal.Q:=
 if x.f0=1∧0<x.f1.length∧0<q.gone.length+q.made.length then ⟨jalousieref08_Normal.fin q,[],[],[]⟩ else q
def jalousieref08_Normal.add (q:jalousieref08_Normal.Q) (x:S47):jalousieref08_Normal.Q:=
 if x.f0=1 then ⟨q.out,q.keep++x.f1,q.gone,q.made⟩ else if x.f0=2 then ⟨q.out,q.keep,q.gone++x.f1,q.made⟩ else if x.f0=3 then ⟨q.out,q.keep,q.gone,q.made++x.f1⟩ else q
def jalousieref08_Normal.all (l:List S47):jalousieref08_Normal.Q:=l.foldl (fun q x=>jalousieref08_Normal.add (jalousieref08_Normal.pre q x) x) ⟨[],[],[],[]⟩
def jalousieref08_Normal.f (k:Nat) (l0:List S47):Option (List S47×Int):=
 (jalousieref08_Check.f k l0).bind fun e=>if e=0 then (if l0.length≤1000000∧(l0.map (fun e=>e.f1.length)).sum≤1000000 then some (jalousieref08_Normal.fin (jalousieref08_Normal.all l0),0) else none) else some ([],e)
theorem jalousieref08_Normal.fin_len (q:jalousieref08_Normal.Q):(jalousieref08_Normal.fin q).length≤q.out.length+3:=by
 unfold jalousieref08_Normal.fin jalousieref08_lay.p
 repeat' split
 all_goals simp<;>omega
theorem jalousieref08_Normal.all_len (l:List S47): ∀n:Nat,(jalousieref08_Normal.all (l.take n)).out.length≤3*n∧(jalousieref08_Normal.all (l.take n)).keep.length+(jalousieref08_Normal.all (l.take n)).gone.length+(jalousieref08_Normal.all (l.take n)).made.length≤((l.take n).map (fun e=>e.f1.length)).sum
 | 0=>by simp [jalousieref08_Normal.all]
 | n+1=>by
  have ih:=jalousieref08_Normal.all_len l n
  rcases Nat.lt_or_ge n l.length with h|h
  ·rw [List.take_succ_eq_append_getElem h]
   have e:jalousieref08_Normal.all (l.take n++ [l[n]])=jalousieref08_Normal.add (jalousieref08_Normal.pre (jalousieref08_Normal.all (l.take n)) l[n]) l[n]:=by
    rw [jalousieref08_Normal.all,List.foldl_append]
    rfl
   rw [e,List.map_append,List.sum_append]
   generalize jalousieref08_Normal.all (l.take n)=q at ih ⊢
   generalize l[n]=x
   have hf:=jalousieref08_Normal.fin_len q
   have hp:(jalousieref08_Normal.pre q x).out.length≤3*n+3∧(jalousieref08_Normal.pre q x).keep.length+(jalousieref08_Normal.pre q x).gone.length+(jalousieref08_Normal.pre q x).made.length≤((l.take n).map (fun e=>e.f1.length)).sum:=by
    unfold jalousieref08_Normal.pre
    split
    ·exact⟨by simp only;omega,by simp⟩
    ·exact⟨by omega,ih.2⟩
   generalize jalousieref08_Normal.pre q x=p at hp ⊢
   unfold jalousieref08_Normal.add
   simp only [List.map_cons,List.map_nil,List.sum_cons,List.sum_nil]
   repeat' split
   all_goals first|(simp only [List.length_append];omega)|omega
  ·rw [List.take_of_length_le (by omega)]
   rw [List.take_of_length_le h] at ih
   omega
def jalousieref08_Normal.N4 (B:Nat) (W:World) (vo vk vg vm:Value) (q:jalousieref08_Normal.Q):Prop:=
 Kd.S k47 47 W B (fun k=>(some k≠vk.ownBlock∧some k≠vg.ownBlock)∧some k≠vm.ownBlock) vo q.out∧Kd.R k66 66 W B (fun k=>some k≠vg.ownBlock∧some k≠vm.ownBlock) vk q.keep∧
 Kd.R k66 66 W B (fun k=>some k≠vk.ownBlock∧some k≠vm.ownBlock) vg q.gone∧Kd.R k66 66 W B (fun k=>some k≠vk.ownBlock∧some k≠vg.ownBlock) vm q.made
section
variable {B:Nat} {W W1:World} {vo vk vg vm v1:Value} {q:jalousieref08_Normal.Q} {ys:List S66} {out:List S47}
theorem jalousieref08_Normal.N4.putk (h:jalousieref08_Normal.N4 B W vo vk vg vm q) (hr:Kd.R k66 66 W1 B (fun k=>some k≠vg.ownBlock∧some k≠vm.ownBlock) v1 ys) (hg:W.grownBy W1 vk.ownBlock) (hat:v1.ownBlock=vk.ownBlock∨ ∃b,v1.ownBlock=some b∧W.heap.size≤b):
  jalousieref08_Normal.N4 B W1 vo v1 vg vm ⟨q.out,ys,q.gone,q.made⟩:=
 ⟨Kd.S_mono (Kd.S_after (ok:=fun k=>some k≠vg.ownBlock∧some k≠vm.ownBlock) (Kd.S_mono h.1 (fun _ hk=>⟨⟨hk.1.2,hk.2⟩,hk.1.1⟩)) hg hat) (fun _ hk=>⟨⟨hk.2,hk.1.1⟩,hk.1.2⟩),hr,
  Kd.R_mono (Kd.R_after (ok:=fun k=>some k≠vm.ownBlock) (Kd.R_mono h.2.2.1 (fun _ hk=>⟨hk.2,hk.1⟩)) hg hat) (fun _ hk=>⟨hk.2,hk.1⟩),
  Kd.R_mono (Kd.R_after (ok:=fun k=>some k≠vg.ownBlock) (Kd.R_mono h.2.2.2 (fun _ hk=>⟨hk.2,hk.1⟩)) hg hat) (fun _ hk=>⟨hk.2,hk.1⟩)⟩
theorem jalousieref08_Normal.N4.putg (h:jalousieref08_Normal.N4 B W vo vk vg vm q) (hr:Kd.R k66 66 W1 B (fun k=>some k≠vk.ownBlock∧some k≠vm.ownBlock) v1 ys) (hg:W.grownBy W1 vg.ownBlock) (hat:v1.ownBlock=vg.ownBlock∨ ∃b,v1.ownBlock=some b∧W.heap.size≤b):
  jalousieref08_Normal.N4 B W1 vo vk v1 vm ⟨q.out,q.keep,ys,q.made⟩:=
 ⟨Kd.S_mono (Kd.S_after (ok:=fun k=>some k≠vk.ownBlock∧some k≠vm.ownBlock) (Kd.S_mono h.1 (fun _ hk=>⟨⟨hk.1.1,hk.2⟩,hk.1.2⟩)) hg hat) (fun _ hk=>⟨⟨hk.1.1,hk.2⟩,hk.1.2⟩),
  Kd.R_mono (Kd.R_after (ok:=fun k=>some k≠vm.ownBlock) (Kd.R_mono h.2.1 (fun _ hk=>⟨hk.2,hk.1⟩)) hg hat) (fun _ hk=>⟨hk.2,hk.1⟩),hr,
  Kd.R_mono (Kd.R_after (ok:=fun k=>some k≠vk.ownBlock) (Kd.R_mono h.2.2.2 (fun _ hk=>⟨hk.1,hk.2⟩)) hg hat) (fun _ hk=>⟨hk.1,hk.2⟩)⟩
theorem jalousieref08_Normal.N4.putm (h:jalousieref08_Normal.N4 B W vo vk vg vm q) (hr:Kd.R k66 66 W1 B (fun k=>some k≠vk.ownBlock∧some k≠vg.ownBlock) v1 ys) (hg:W.grownBy W1 vm.ownBlock) (hat:v1.ownBlock=vm.ownBlock∨ ∃b,v1.ownBlock=some b∧W.heap.size≤b):
  jalousieref08_Normal.N4 B W1 vo vk vg v1 ⟨q.out,q.keep,q.gone,ys⟩:=
 ⟨Kd.S_after (ok:=fun k=>some k≠vk.ownBlock∧some k≠vg.ownBlock) h.1 hg hat,
  Kd.R_after (ok:=fun k=>some k≠vg.ownBlock) h.2.1 hg hat,Kd.R_after (ok:=fun k=>some k≠vk.ownBlock) h.2.2.1 hg hat,hr⟩
theorem jalousieref08_Normal.N4.puto (h:jalousieref08_Normal.N4 B W vo vk vg vm q) (hr:Kd.S k47 47 W1 B (fun k=>(some k≠vk.ownBlock∧some k≠vg.ownBlock)∧some k≠vm.ownBlock) v1 out) (hg:W.grownBy W1 vo.ownBlock):
  jalousieref08_Normal.N4 B W1 v1 vk vg vm ⟨out,q.keep,q.gone,q.made⟩:=
 ⟨hr,Kd.R_over' h.2.1 (Kd.S_typed h.1) (by decide) hg,Kd.R_over' h.2.2.1 (Kd.S_typed h.1) (by decide) hg,Kd.R_over' h.2.2.2 (Kd.S_typed h.1) (by decide) hg⟩
theorem jalousieref08_Normal.N4.fresh (h:jalousieref08_Normal.N4 B W vo vk vg vm q): ∀k,W.heap.size≤k→(some k≠vk.ownBlock∧some k≠vg.ownBlock)∧some k≠vm.ownBlock:=fun k hk=>
 ⟨⟨fun e=>by have:=Kd.R_lt h.2.1 k e.symm;omega,fun e=>by have:=Kd.R_lt h.2.2.1 k e.symm;omega⟩,fun e=>by have:=Kd.R_lt h.2.2.2 k e.symm;omega⟩
theorem jalousieref08_Normal.N4.clear (h:jalousieref08_Normal.N4 B W vo vk vg vm q):jalousieref08_Normal.N4 B W vo (.slice none 0 0) (.slice none 0 0) (.slice none 0 0) ⟨q.out,[],[],[]⟩:=
 ⟨Kd.S_mono h.1 (fun _ _=>by simp [Value.ownBlock]),Kd.R_nil _ _ _ _ _,Kd.R_nil _ _ _ _ _,Kd.R_nil _ _ _ _ _⟩
end
theorem jalousieref08_Normal.empty {α:Type} (d:Kd α) (W:World) (B g e:Nat) (ok:Nat→Prop) (h:W.heap[g]? =some (.cells #[] e (0,0))) (hB:B≤g) (hok:ok g) (hs:0<d.sz):d.R e W B ok (.slice (some ⟨g,0,none⟩) 0 0) []:=by
 refine⟨fun k hk=>?_,[],⟨by simp, .inr ⟨g,0, #[],rfl,hB,h,Nat.le_refl _,by omega,by simp,by simp⟩⟩,Reps.none _ _⟩
 have:g=k:=by simpa [Value.ownBlock] using hk
 exact this▸hok
theorem jalousieref08_Normal.lay_len (s:List S47) (d:Int) (l:List S66):(jalousieref08_lay.p s d l).length≤s.length+1:=by
 unfold jalousieref08_lay.p
 split<;>simp
theorem jalousieref08_Normal.four (w1:World) (a b c d:Obj):((((w1.alloc a).alloc b).alloc c).alloc d).heap[w1.heap.size]? =some a∧((((w1.alloc a).alloc b).alloc c).alloc d).heap[w1.heap.size+1]? =some b∧((((w1.alloc a).alloc b).alloc c).alloc d).heap[w1.heap.size+1+1]? =some c∧((((w1.alloc a).alloc b).alloc c).alloc d).heap[w1.heap.size+1+1+1]? =some d:=by
 have h0:=World.alloc_heap_new w1 a
 have h1:=World.alloc_heap_new (w1.alloc a) b
 have h2:=World.alloc_heap_new ((w1.alloc a).alloc b) c
 have h3:=World.alloc_heap_new (((w1.alloc a).alloc b).alloc c) d
 simp only [World.size_alloc] at h1 h2 h3
 exact⟨blk_alloc (blk_alloc (blk_alloc h0 _) _) _,blk_alloc (blk_alloc h1 _) _,blk_alloc h2 _,h3⟩
set_option maxHeartbeats 4000000 in
set_option maxRecDepth 100000 in
theorem jalousieref08_Normal.calls (k:Nat) (A0:Option Addr) (c0:Nat) (l0:List S47) (r1:List S47) (r2:Int) (w:World) (hr0:Kd.C k47 w A0 l0.length l0) (hc0:l0.length≤c0) (h:jalousieref08_Normal.f k l0=some (r1,r2)):
  Calls Try.prog 23 #[.slice A0 l0.length c0] w fun e w'=> ∃v0_:Value,e= .returned (.tuple #[v0_, .int .i64 r2])∧Kd.S k47 47 w' w.heap.size (fun _=>True) v0_ r1∧Below w.heap.size w w':=by
 unfold jalousieref08_Normal.f at h
 obtain⟨e0,hE,h⟩:=Option.bind_eq_some_iff.1 h
 have HE:=Aside0.mk (jalousieref08_Check.calls k A0 c0 l0 e0 w hr0 hc0 hE)
 have HC0:=Aside0.mk hr0
 have Hc0:=Aside0.mk hc0
 clear hE hr0 hc0
 by_cases he0:e0=0
 ·subst he0
  rw [if_pos rfl] at h
  split at h
  case isFalse=>cases h
  rename_i hsz
  obtain⟨hs1,hs2⟩:=hsz
  have hr:=Option.some.inj h
  simp only [Prod.mk.injEq] at hr
  obtain⟨hr1,rfl⟩:=hr
  have HR1:=Aside0.mk hr1
  clear h hr1
  go_enter Try.func23,Try.ntmps23
  go_wp2_with(go_at_call 26;refine HE.out.mono ?_;rintro e w1 ⟨rfl,hD⟩;have HB:=Aside0.mk hD.below;clear hD)
  go_loopw [5,6,7,8,9] (fun vo vk vg vm vi wr=> ∃n:Nat,n≤l0.length∧vi= .int .i64 (n:Int)∧jalousieref08_Normal.N4 w.heap.size wr vo vk vg vm (jalousieref08_Normal.all (l0.take n))∧Below w.heap.size w wr)
   (fun _ _ _ _ vi _=>l0.length-(intOf vi).toNat)
  case atStart=>
   have hs:=HB.out.size
   obtain⟨q0,q1,q2,q3⟩:=jalousieref08_Normal.four w1 (.cells #[] 47) (.cells #[] 66) (.cells #[] 66) (.cells #[] 66)
   refine⟨0,Nat.zero_le _,rfl,⟨⟨fun _=>0,jalousieref08_Normal.empty _ _ _ _ _ _ q0 hs ?_ (by decide)⟩,jalousieref08_Normal.empty _ _ _ _ _ _ q1 (by omega) ?_ (by decide),jalousieref08_Normal.empty _ _ _ _ _ _ q2 (by omega) ?_ (by decide),jalousieref08_Normal.empty _ _ _ _ _ _ q3 (by omega) ?_ (by decide)⟩,?_⟩
   case refine_5=>exact(((HB.out.alloc hs _).alloc (by rw [World.size_alloc];omega) _).alloc (by simp only [World.size_alloc];omega) _).alloc (by simp only [World.size_alloc];omega) _
   all_goals simp only [Value.ownBlock,ne_eq,Option.some.injEq];omega
  case round=>
   obtain⟨n,hn,rfl,hN,hBr⟩:=hrel
   by_cases hlt:n<l0.length
   ·have hx:rd_T47 l0 (n:Int)=l0[n]:=by
     simp [rd_T47,hlt]
    have hlt':decide ((n:Int)<(l0.length:Int))=true:=decide_eq_true (by omega)
    have hlt2:((n:Int)<(l0.length:Int))=True:=eq_true (by omega)
    have hlen:=jalousieref08_Normal.all_len l0 n
    have hlen2:=jalousieref08_Normal.all_len l0 (n+1)
    have hsum:((l0.take n).map (fun e=>e.f1.length)).sum+(rd_T47 l0 (n:Int)).f1.length≤1000000:=by
     have e1:=congrArg (fun l=>(l.map (fun e:S47=>e.f1.length)).sum) (List.take_append_drop n l0)
     simp only [List.map_append,List.sum_append] at e1
     rw [List.drop_eq_getElem_cons hlt,List.map_cons,List.sum_cons, ← hx] at e1
     omega
    have hall:jalousieref08_Normal.all (l0.take (n+1))=jalousieref08_Normal.add (jalousieref08_Normal.pre (jalousieref08_Normal.all (l0.take n)) (rd_T47 l0 (n:Int))) (rd_T47 l0 (n:Int)):=by
     rw [List.take_succ_eq_append_getElem hlt,jalousieref08_Normal.all,List.foldl_append,hx]
     rfl
    obtain⟨ad,A1,c1,e,hx0,hx1,hl5,hC1⟩:=at_T47 HC0.out (n:Int) (by omega) (by omega)
    cases e
    simp only [Int.toNat_natCast] at hx0 hx1
    have HX0w:=Aside0.mk hx0
    have HX1w:=Aside0.mk hx1
    replace hx0:=(hBr.cell (World.block_lt_of_cell? w _ hx0)).trans hx0
    replace hx1:=(hBr.cell (World.block_lt_of_cell? w _ hx1)).trans hx1
    have hsl:l0.length≤9223372036854775807:=HC0.out.2.1
    have HWn:Aside0 (wrap64 ((n:Int)+1)=((n+1:Nat):Int)):=⟨by unfold wrap64;omega⟩
    have HC1:=Aside0.mk hC1
    generalize hqq:jalousieref08_Normal.all (l0.take n)=q at hN hlen hall
    obtain⟨out,keep,gone,made⟩:=q
    obtain⟨Ak,ck,rfl⟩:=Kd.R_slice hN.2.1
    obtain⟨Ag,cg,rfl⟩:=Kd.R_slice hN.2.2.1
    obtain⟨Am,cm,rfl⟩:=Kd.R_slice hN.2.2.2
    obtain⟨Ao,co,rfl⟩:=Kd.R_slice (Kd.S_R hN.1)
    simp only at hlen
    have Hall:=Aside0.mk hall
    have HN:=Aside0.mk hN
    have HB:=Aside0.mk hBr
    have Hqq:=Aside0.mk hqq
    clear hx hall hN hBr hC1 hl5 hqq
    have hg64:wrap64 ((gone.length:Int)+(made.length:Int))=((gone.length+made.length:Nat):Int):=by unfold wrap64;omega
    have Hg64:=Aside0.mk hg64
    clear hg64
    by_cases h1:(rd_T47 l0 (n:Int)).f0=1
    ·have h1':((rd_T47 l0 (n:Int)).f0==1)=true:=beq_iff_eq.mpr h1
     by_cases hl:0<(rd_T47 l0 (n:Int)).f1.length
     ·have hl':decide (0<(rd_T47 l0 (n:Int)).f1.length)=true:=decide_eq_true hl
      by_cases hgm:0<gone.length+made.length
      ·have hgm':decide (0<gone.length+made.length)=true:=decide_eq_true hgm
       have hgm2:(0<(gone.length:Int)+(made.length:Int))=True:=eq_true (by omega)
       have HA:Aside0 (jalousieref08_Normal.all (l0.take (n+1))=⟨jalousieref08_Normal.fin ⟨out,keep,gone,made⟩,[]++(rd_T47 l0 (n:Int)).f1,[],[]⟩):=⟨by
        rw [Hall.out]
        unfold jalousieref08_Normal.pre
        rw [if_pos ⟨h1,hl,hgm⟩]
        unfold jalousieref08_Normal.add
        rw [if_pos h1]⟩
       clear h1 hl hgm
       go_wp2_with(first|(go_at_call 53;have hcl:=jalousieref08_lay.owned w.heap.size _ out 1 keep (.slice Ao out.length co) _ _ wr HN.out.1 HN.out.fresh (Kd.R_reads' HN.out.2.1).2.2 (Kd.R_reads' HN.out.2.1).2.1 (by omega) (by omega) HB.out.size;with_reducible refine hcl.mono ?_;clear hcl;rintro e wa ⟨va,rfl,hsa,hga,_,hba⟩;obtain⟨Aa,ca,rfl⟩:=Kd.R_slice (Kd.S_R hsa);have HNa:=Aside0.mk (HN.out.puto hsa hga);have HBa:=Aside0.mk (HB.out.trans (hba));clear hsa hga hba)|(go_at_call 53;have hcl:=jalousieref08_lay.owned w.heap.size _ (jalousieref08_lay.p out 1 keep) 2 gone (.slice Aa (jalousieref08_lay.p out 1 keep).length ca) _ _ wa HNa.out.1 HNa.out.fresh (Kd.R_reads' HNa.out.2.2.1).2.2 (Kd.R_reads' HNa.out.2.2.1).2.1 (by have:=jalousieref08_Normal.lay_len out 1 keep;have:=jalousieref08_Normal.lay_len (jalousieref08_lay.p out 1 keep) 2 gone;omega) (by omega) HBa.out.size;with_reducible refine hcl.mono ?_;clear hcl;rintro e wb ⟨vb,rfl,hsb,hgb,_,hbb⟩;obtain⟨Ab,cb,rfl⟩:=Kd.R_slice (Kd.S_R hsb);have HNb:=Aside0.mk (HNa.out.puto hsb hgb);have HBb:=Aside0.mk (HBa.out.trans (hbb));clear hsb hgb hbb)|(go_at_call 53;have hcl:=jalousieref08_lay.owned w.heap.size _ (jalousieref08_lay.p (jalousieref08_lay.p out 1 keep) 2 gone) 3 made (.slice Ab (jalousieref08_lay.p (jalousieref08_lay.p out 1 keep) 2 gone).length cb) _ _ wb HNb.out.1 HNb.out.fresh (Kd.R_reads' HNb.out.2.2.2).2.2 (Kd.R_reads' HNb.out.2.2.2).2.1 (by have:=jalousieref08_Normal.lay_len out 1 keep;have:=jalousieref08_Normal.lay_len (jalousieref08_lay.p out 1 keep) 2 gone;omega) (by omega) HBb.out.size;with_reducible refine hcl.mono ?_;clear hcl;rintro e wd ⟨vd,rfl,hsd,hgd,_,hbd⟩;obtain⟨Ad,cd,rfl⟩:=Kd.R_slice (Kd.S_R hsd);have HNd:=Aside0.mk (HNb.out.puto hsd hgd);have HBd:=Aside0.mk (HBb.out.trans (hbd));clear hsd hgd hbd;have hx0d:=(HBd.out.cell (World.block_lt_of_cell? w _ HX0w.out)).trans HX0w.out)|((with_reducible refine gate_dst (N:=67) rfl ?_);refine Kd.event_run (w1:=wd) (v:= .slice A1 (rd_T47 l0 (n:Int)).f1.length c1) ?hg ?hr ?_;(case hg=>rfl);(case hr=>have hx1d:=(HBd.out.cell (World.block_lt_of_cell? w _ HX1w.out)).trans HX1w.out;(go_simp;done));obtain⟨u6,hu6⟩: ∃u:Value,u= .slice none 0 0:=⟨_,rfl⟩;rw [← hu6];have U6:=Aside0.mk hu6;have HNe:Aside0 (jalousieref08_Normal.N4 w.heap.size wd (.slice Ad (jalousieref08_Normal.fin ⟨out,keep,gone,made⟩).length cd) u6 u6 u6 ⟨jalousieref08_Normal.fin ⟨out,keep,gone,made⟩,[],[],[]⟩):=⟨by rw [U6.out];exact HNd.out.clear⟩;clear HNd hu6)|((with_reducible refine gate_builtin (b:= .append) (xs:= #[.tmp 62, .tmp 67]) rfl ?_);at_builtin;refine Kd.R_append_rows k66 (w0:=w) w.heap.size rfl (.tmp 62) (.tmp 67) 37 66 (.agg #[(.string ⟨#[]⟩),(.bool false)]) 24 rfl Try.underlying37 info66 rfl (by decide) (by omega) u6 [] (rd_T47 l0 (n:Int)).f1 _ _ _ _ (fun _=>False) rfl rfl HNe.out.2.1 (Kd.C_below HC1.out HBd.out) (fun _ _ h=>h) (fun _ h=>h.elim) (fun k hk=>⟨(HNe.out.fresh k hk).1.2,(HNe.out.fresh k hk).2⟩) HBd.out HBd.out.size ?aL ?_;(case aL=>(try simp only [List.length_nil]);omega);intro v9 w9 ho9 hb9 hg9 hat9;have HN9:=Aside0.mk (HNe.out.putk ho9 hg9 hat9);have HB9:=Aside0.mk hb9;clear ho9 hb9 hg9 hat9))
       go_roundw
       case rel=>exact⟨_,_,_,_,_,⟨n+1,by omega,by rfl,by rw [HA.out];exact HN9.out,HB9.out⟩,U6.out,rfl,rfl,rfl,rfl,rfl⟩
       case measure=>
        simp only [intOf,Int.toNat_natCast]
        omega
      ·have hgm':decide (0<gone.length+made.length)=false:=decide_eq_false hgm
       have hgm2:(0<(gone.length:Int)+(made.length:Int))=False:=eq_false (by omega)
       have HA:Aside0 (jalousieref08_Normal.all (l0.take (n+1))=⟨out,keep++(rd_T47 l0 (n:Int)).f1,gone,made⟩):=⟨by
        rw [Hall.out]
        unfold jalousieref08_Normal.pre
        rw [if_neg (fun h=>hgm h.2.2)]
        unfold jalousieref08_Normal.add
        rw [if_pos h1]⟩
       clear h1 hl hgm
       go_wp2_with((with_reducible refine gate_builtin (b:= .append) (xs:= #[.tmp 62, .tmp 67]) rfl ?_);at_builtin;refine Kd.R_append_rows k66 (w0:=w) w.heap.size rfl (.tmp 62) (.tmp 67) 37 66 (.agg #[(.string ⟨#[]⟩),(.bool false)]) 24 rfl Try.underlying37 info66 rfl (by decide) (by omega) (.slice Ak keep.length ck) keep (rd_T47 l0 (n:Int)).f1 _ _ _ _ (fun _=>False) rfl rfl HN.out.2.1 (Kd.C_below HC1.out HB.out) (fun _ _ h=>h) (fun _ h=>h.elim) (fun k hk=>⟨(HN.out.fresh k hk).1.2,(HN.out.fresh k hk).2⟩) HB.out HB.out.size ?aL ?_;(case aL=>omega);intro v9 w9 ho9 hb9 hg9 hat9;have HN9:=Aside0.mk (HN.out.putk ho9 hg9 hat9);have HB9:=Aside0.mk hb9;clear ho9 hb9 hg9 hat9)
       go_roundw
       case rel=>exact⟨n+1,by omega,by rfl,by rw [HA.out];exact HN9.out,HB9.out⟩
       case measure=>
        simp only [intOf,Int.toNat_natCast]
        omega
     ·have hl':decide (0<(rd_T47 l0 (n:Int)).f1.length)=false:=decide_eq_false hl
      have HA:Aside0 (jalousieref08_Normal.all (l0.take (n+1))=⟨out,keep++(rd_T47 l0 (n:Int)).f1,gone,made⟩):=⟨by
       rw [Hall.out]
       unfold jalousieref08_Normal.pre
       rw [if_neg (fun h=>hl h.2.1)]
       unfold jalousieref08_Normal.add
       rw [if_pos h1]⟩
      clear h1 hl
      go_wp2_with((with_reducible refine gate_builtin (b:= .append) (xs:= #[.tmp 62, .tmp 67]) rfl ?_);at_builtin;refine Kd.R_append_rows k66 (w0:=w) w.heap.size rfl (.tmp 62) (.tmp 67) 37 66 (.agg #[(.string ⟨#[]⟩),(.bool false)]) 24 rfl Try.underlying37 info66 rfl (by decide) (by omega) (.slice Ak keep.length ck) keep (rd_T47 l0 (n:Int)).f1 _ _ _ _ (fun _=>False) rfl rfl HN.out.2.1 (Kd.C_below HC1.out HB.out) (fun _ _ h=>h) (fun _ h=>h.elim) (fun k hk=>⟨(HN.out.fresh k hk).1.2,(HN.out.fresh k hk).2⟩) HB.out HB.out.size ?aL ?_;(case aL=>omega);intro v9 w9 ho9 hb9 hg9 hat9;have HN9:=Aside0.mk (HN.out.putk ho9 hg9 hat9);have HB9:=Aside0.mk hb9;clear ho9 hb9 hg9 hat9)
      go_roundw
      case rel=>exact⟨n+1,by omega,by rfl,by rw [HA.out];exact HN9.out,HB9.out⟩
      case measure=>
       simp only [intOf,Int.toNat_natCast]
       omega
    ·have h1':((rd_T47 l0 (n:Int)).f0==1)=false:=beq_eq_false_iff_ne.mpr h1
     by_cases h2:(rd_T47 l0 (n:Int)).f0=2
     ·have h2':((rd_T47 l0 (n:Int)).f0==2)=true:=beq_iff_eq.mpr h2
      have HA:Aside0 (jalousieref08_Normal.all (l0.take (n+1))=⟨out,keep,gone++(rd_T47 l0 (n:Int)).f1,made⟩):=⟨by
      rw [Hall.out]
      unfold jalousieref08_Normal.pre
      rw [if_neg (fun h=>h1 h.1)]
      unfold jalousieref08_Normal.add
      rw [if_neg h1,if_pos h2]⟩
      clear h1 h2
      go_wp2_with((with_reducible refine gate_builtin (b:= .append) (xs:= #[.tmp 71, .tmp 76]) rfl ?_);at_builtin;refine Kd.R_append_rows k66 (w0:=w) w.heap.size rfl (.tmp 71) (.tmp 76) 37 66 (.agg #[(.string ⟨#[]⟩),(.bool false)]) 24 rfl Try.underlying37 info66 rfl (by decide) (by omega) (.slice Ag gone.length cg) gone (rd_T47 l0 (n:Int)).f1 _ _ _ _ (fun _=>False) rfl rfl HN.out.2.2.1 (Kd.C_below HC1.out HB.out) (fun _ _ h=>h) (fun _ h=>h.elim) (fun k hk=>⟨(HN.out.fresh k hk).1.1,(HN.out.fresh k hk).2⟩) HB.out HB.out.size ?aL ?_;(case aL=>omega);intro v9 w9 ho9 hb9 hg9 hat9;have HN9:=Aside0.mk (HN.out.putg ho9 hg9 hat9);have HB9:=Aside0.mk hb9;clear ho9 hb9 hg9 hat9)
      go_roundw
      case rel=>exact⟨n+1,by omega,by rfl,by rw [HA.out];exact HN9.out,HB9.out⟩
      case measure=>
       simp only [intOf,Int.toNat_natCast]
       omega
     ·have h2':((rd_T47 l0 (n:Int)).f0==2)=false:=beq_eq_false_iff_ne.mpr h2
      by_cases h3:(rd_T47 l0 (n:Int)).f0=3
      ·have h3':((rd_T47 l0 (n:Int)).f0==3)=true:=beq_iff_eq.mpr h3
       have HA:Aside0 (jalousieref08_Normal.all (l0.take (n+1))=⟨out,keep,gone,made++(rd_T47 l0 (n:Int)).f1⟩):=⟨by
       rw [Hall.out]
       unfold jalousieref08_Normal.pre
       rw [if_neg (fun h=>h1 h.1)]
       unfold jalousieref08_Normal.add
       rw [if_neg h1,if_neg h2,if_pos h3]⟩
       clear h1 h2 h3
       go_wp2_with((with_reducible refine gate_builtin (b:= .append) (xs:= #[.tmp 80, .tmp 85]) rfl ?_);at_builtin;refine Kd.R_append_rows k66 (w0:=w) w.heap.size rfl (.tmp 80) (.tmp 85) 37 66 (.agg #[(.string ⟨#[]⟩),(.bool false)]) 24 rfl Try.underlying37 info66 rfl (by decide) (by omega) (.slice Am made.length cm) made (rd_T47 l0 (n:Int)).f1 _ _ _ _ (fun _=>False) rfl rfl HN.out.2.2.2 (Kd.C_below HC1.out HB.out) (fun _ _ h=>h) (fun _ h=>h.elim) (fun k hk=>(HN.out.fresh k hk).1) HB.out HB.out.size ?aL ?_;(case aL=>omega);intro v9 w9 ho9 hb9 hg9 hat9;have HN9:=Aside0.mk (HN.out.putm ho9 hg9 hat9);have HB9:=Aside0.mk hb9;clear ho9 hb9 hg9 hat9)
       go_roundw
       case rel=>exact⟨n+1,by omega,by rfl,by rw [HA.out];exact HN9.out,HB9.out⟩
       case measure=>
        simp only [intOf,Int.toNat_natCast]
        omega
      ·have h3':((rd_T47 l0 (n:Int)).f0==3)=false:=beq_eq_false_iff_ne.mpr h3
       have HA:Aside0 (jalousieref08_Normal.all (l0.take (n+1))=⟨out,keep,gone,made⟩):=⟨by
       rw [Hall.out]
       unfold jalousieref08_Normal.pre
       rw [if_neg (fun h=>h1 h.1)]
       unfold jalousieref08_Normal.add
       rw [if_neg h1,if_neg h2,if_neg h3]⟩
       clear h1 h2 h3
       go_wp2
       go_roundw
       case rel=>exact⟨n+1,by omega,by rfl,by rw [HA.out];exact HN.out,HB.out⟩
       case measure=>
        simp only [intOf,Int.toNat_natCast]
        omega
   ·obtain rfl:n=l0.length:=by omega
    have hlt':decide ((l0.length:Int)<(l0.length:Int))=false:=decide_eq_false (by omega)
    have hlen:=jalousieref08_Normal.all_len l0 l0.length
    rw [List.take_length] at hN hlen
    unfold jalousieref08_Normal.all at hlen
    generalize hqq:jalousieref08_Normal.all l0=q at hN
    have hqq':=hqq
    unfold jalousieref08_Normal.all at hqq'
    rw [hqq'] at hlen
    obtain⟨out,keep,gone,made⟩:=q
    obtain⟨Ak,ck,rfl⟩:=Kd.R_slice hN.2.1
    obtain⟨Ag,cg,rfl⟩:=Kd.R_slice hN.2.2.1
    obtain⟨Am,cm,rfl⟩:=Kd.R_slice hN.2.2.2
    obtain⟨Ao,co,rfl⟩:=Kd.R_slice (Kd.S_R hN.1)
    simp only at hlen
    have HN:=Aside0.mk hN
    have HB:=Aside0.mk hBr
    have Hqq:=Aside0.mk hqq
    clear hN hBr hqq hqq' hlt hn
    go_wp2_with(first|(go_at_call 53;have hcl:=jalousieref08_lay.owned w.heap.size _ out 1 keep (.slice Ao out.length co) _ _ wr HN.out.1 HN.out.fresh (Kd.R_reads' HN.out.2.1).2.2 (Kd.R_reads' HN.out.2.1).2.1 (by omega) (by omega) HB.out.size;with_reducible refine hcl.mono ?_;clear hcl;rintro e wa ⟨va,rfl,hsa,hga,_,hba⟩;obtain⟨Aa,ca,rfl⟩:=Kd.R_slice (Kd.S_R hsa);have HNa:=Aside0.mk (HN.out.puto hsa hga);have HBa:=Aside0.mk (HB.out.trans (hba));clear hsa hga hba)|(go_at_call 53;have hcl:=jalousieref08_lay.owned w.heap.size _ (jalousieref08_lay.p out 1 keep) 2 gone (.slice Aa (jalousieref08_lay.p out 1 keep).length ca) _ _ wa HNa.out.1 HNa.out.fresh (Kd.R_reads' HNa.out.2.2.1).2.2 (Kd.R_reads' HNa.out.2.2.1).2.1 (by have:=jalousieref08_Normal.lay_len out 1 keep;have:=jalousieref08_Normal.lay_len (jalousieref08_lay.p out 1 keep) 2 gone;omega) (by omega) HBa.out.size;with_reducible refine hcl.mono ?_;clear hcl;rintro e wb ⟨vb,rfl,hsb,hgb,_,hbb⟩;obtain⟨Ab,cb,rfl⟩:=Kd.R_slice (Kd.S_R hsb);have HNb:=Aside0.mk (HNa.out.puto hsb hgb);have HBb:=Aside0.mk (HBa.out.trans (hbb));clear hsb hgb hbb)|(go_at_call 53;have hcl:=jalousieref08_lay.owned w.heap.size _ (jalousieref08_lay.p (jalousieref08_lay.p out 1 keep) 2 gone) 3 made (.slice Ab (jalousieref08_lay.p (jalousieref08_lay.p out 1 keep) 2 gone).length cb) _ _ wb HNb.out.1 HNb.out.fresh (Kd.R_reads' HNb.out.2.2.2).2.2 (Kd.R_reads' HNb.out.2.2.2).2.1 (by have:=jalousieref08_Normal.lay_len out 1 keep;have:=jalousieref08_Normal.lay_len (jalousieref08_lay.p out 1 keep) 2 gone;omega) (by omega) HBb.out.size;with_reducible refine hcl.mono ?_;clear hcl;rintro e wd ⟨vd,rfl,hsd,hgd,_,hbd⟩;obtain⟨Ad,cd,rfl⟩:=Kd.R_slice (Kd.S_R hsd);have HNd:=Aside0.mk (HNb.out.puto hsd hgd);have HBd:=Aside0.mk (HBb.out.trans (hbd));clear hsd hgd hbd))
    go_ret2
    have e2:r1=jalousieref08_Normal.fin ⟨out,keep,gone,made⟩:=by rw [← HR1.out,Hqq.out]
    rw [e2]
    exact⟨_,rfl,Kd.S_mono HNd.out.1 (fun _ _=>trivial),HBd.out⟩
 ·rw [if_neg he0] at h
  have hr:=Option.some.inj h
  simp only [Prod.mk.injEq] at hr
  obtain⟨rfl,rfl⟩:=hr
  have hne:(e0 != 0)=true:=bne_iff_ne.mpr he0
  clear h he0
  go_enter Try.func23,Try.ntmps23
  go_wp2_with(go_at_call 26;refine HE.out.mono ?_;rintro e w1 ⟨rfl,hD⟩)
  go_ret2
  exact⟨_,rfl,Kd.S_nil _ _ _ _ _,hD.below⟩
end Go.Proofs.Ytfnbodjmmkjlcaa.H
end
section
namespace Go.Proofs.Ytfnbodjmmkjlcaa.H
open Go.RowKit Go.Proofs.YtfnbodjmmkjlcaaW.PrintWords Go.Proofs.YtfnbodjmmkjlcaaW.PrintLast Go.Proofs.YtfnbodjmmkjlcaaW.PrintMore
attribute [local go_sem] max2_int min2_int max_two min_two max_three min_three max_four min_four
set_option linter.unusedVariables false
set_option linter.unusedSimpArgs false
mutual
def jalousieref09_Single.l0:Nat→List (S47)→List (S47)→Int→Option ((List (S47)))
 | 0,_,_,_=>none
 | k+1,x0,x3,x4=>if x4<(x0.length:Int) then (jalousieref09_Single.l1 k x0 x3 x4 0) else (some x3)
def jalousieref09_Single.l1:Nat→List (S47)→List (S47)→Int→Int→Option ((List (S47)))
 | 0,_,_,_,_=>none
 | k+1,x0,x3,x4,x5=>if 0≤x4 then (if x4<(x0.length:Int) then (if x5<(((rd_T47 x0 x4).f1).length:Int) then (if 0≤x5 then (if x3.length<4398046511104 then (jalousieref09_Single.l1 k x0 (x3++ [(⟨(rd_T47 x0 x4).f0,(([(⟨(rd_T66 ((rd_T47 x0 x4).f1) x5).f0,(rd_T66 ((rd_T47 x0 x4).f1) x5).f1⟩:S66)]:List (S66)))⟩:S47)]) x4 (wrap64 (x5+1))) else (none)) else (none)) else (jalousieref09_Single.l0 k x0 x3 (wrap64 (x4+1)))) else (none)) else (none)
end
def jalousieref09_Single.f (k:Nat) (l0:List (S47)):Option ((List (S47))):=jalousieref09_Single.l0 k l0 (([]:List (S47))) 0
def jalousieref09_Single.T8:Bool×List (List Nat×List Nat):=(true,[([],[]),([],[]),([],[]),([1,2],[1,2]),([3],[3]),([4],[4]),([],[]),([],[]),([6,7],[6,7]),([8],[8]),([9],[9]),([],[]),([10,11],[10,11]),([12],[12]),([13],[13]),([5,14],[5,14]),([15],[15]),([0,16],[0,16]),([17,17,0,1,2,3,4,5,6,7,8,9,10,11,12,13,14,15,16,17],[0,17])])
def jalousieref09_Single.B8:List Nat:= [0,0,0,6,14,30,0,0,192,448,960,0,4032,8128,16320,32766,65534,131071,262143]
theorem jalousieref09_Single.tab8:rtab .any (opsOf Try.f41 8)=jalousieref09_Single.T8:=by kernel_rfl
theorem jalousieref09_Single.bits8:waitsOk jalousieref09_Single.T8.2 jalousieref09_Single.B8=true:=by kernel_rfl
set_option maxHeartbeats 8000000 in
set_option maxRecDepth 100000 in
theorem jalousieref09_Single.calls (k:Nat) (A0:Option Addr) (c0:Nat) (l0:List (S47)) (r:List (S47)) (w:World) (hr0:Kd.C k47 w A0 l0.length l0) (hc0:l0.length≤c0) (h:jalousieref09_Single.f k l0=some r):
  Calls Try.prog 41 #[.slice A0 l0.length c0] w fun e w'=> ∃v0_:Value,e= .returned (v0_)∧Kd.S k47 47 w' w.heap.size (fun _=>True) v0_ r∧Below w.heap.size w w':=by
 have hu66:=Try.underlying66
 have hu47:=Try.underlying47
 have HR0:=Aside0.mk hr0
 have HC0:=Aside0.mk hc0
 clear hr0 hc0
 have HB:=Aside0.mk (Below.refl w.heap.size w)
 have H:(jalousieref09_Single.l0 k l0 (([]:List (S47))) 0)=some r:=h
 clear h
 obtain⟨y234,hy234⟩: ∃y_:List (S47),y_=(([]:List (S47))):=⟨_,rfl⟩
 replace H:(jalousieref09_Single.l0 k l0 y234 0)=some r:=by(rw [hy234];with_reducible exact H)
 have Ny234:=Aside0.mk hy234
 clear hy234
 have H':=Aside0.mk H
 clear H
 go_enter Try.func41,Try.ntmps41
 go_wp2_with(((with_reducible refine gate_dst (N:=6) rfl ?_);refine Kd.S_lit k47 _ 47 ?hg (N:=6) ?hd (xs:=([]:List (S47))) (inner:= []) (ok:=fun _=>True) (okp:=fun _=>True) ?hr ?hp (fun _ hk=>hk) trivial (Below.refl _ _) (Nat.le_refl _) (by simp) ?_;(case hd=>rfl);(case hg=>rfl);(case hr=>(go_simp;done));(case hp=>exact(Reps.none _ _));intro v235 w2 ho3 hb hg_ hnew_;clear hg_ hnew_;(rw [← Ny234.out] at ho3);have n0_:=Aside0.mk (Kd.S_lower ho3 (below_size (by repeat((with_reducible exact HB.out)))));have n1_:=Aside0.mk (below_step (by repeat((with_reducible exact HB.out))) hb);clear HB;have HO236:=n0_;have HB:=n1_;clear n0_ n1_;clear hb ho3))
 go_loopg [3,4] k (fun kq v3 v4 w'=> ∃(x3_1:List (S47)) (x4_1:Int),v4= .int .i64 x4_1∧Aside0 (jalousieref09_Single.l0 kq l0 x3_1 x4_1=some r)∧Aside0 (kq≤k)∧Aside0 (Kd.S k47 47 w' w.heap.size (fun _=>True) v3 x3_1)∧Aside0 (Below w.heap.size w w'))
 case atStart=>exact⟨(y234),(0),(by rfl),H',⟨Nat.le_refl _⟩,⟨by exact HO236.out⟩,⟨by repeat((with_reducible exact HB.out))⟩⟩
 case round=>
  clear H'
  obtain⟨x3_1,x4_1,rfl,HA,HK1,HO_3,HB⟩:=hrel
  cases gk with
  | zero=>exact absurd HA.out (by simp [jalousieref09_Single.l0])
  | succ k1=>
   have H:=HA.out
   clear HA
   simp only [jalousieref09_Single.l0] at H
   by_cases c4:x4_1<(l0.length:Int)
   ·rw [if_pos c4] at H
    have c4b0:decide (x4_1<(l0.length:Int))=true:=decide_eq_true c4
    clear c4
    have H':=Aside0.mk H
    clear H
    go_wp2
    go_loopg [3,5] k1 (fun kq v3 v5 w'=> ∃(x3_2:List (S47)) (x5_2:Int),v5= .int .i64 x5_2∧Aside0 (jalousieref09_Single.l1 kq l0 x3_2 x4_1 x5_2=some r)∧Aside0 (kq≤k1)∧Aside0 (Kd.S k47 47 w' w.heap.size (fun _=>True) v3 x3_2)∧Aside0 (Below w.heap.size w w'))
    case atStart=>exact⟨(x3_1),(0),(by rfl),H',⟨Nat.le_refl _⟩,⟨by exact HO_3.out⟩,⟨by repeat((with_reducible exact HB.out))⟩⟩
    case round=>
     clear H'
     try clear c4b0
     obtain⟨x3_2,x5_2,rfl,HA,HK2,HO_3,HB⟩:=hrel
     cases gk with
     | zero=>exact absurd HA.out (by simp [jalousieref09_Single.l1])
     | succ k2=>
      have H:=HA.out
      clear HA
      simp only [jalousieref09_Single.l1] at H
      by_cases c5:0≤x4_1
      ·rw [if_pos c5] at H
       have c5b0:decide (0≤x4_1)=true:=decide_eq_true c5
       clear c5
       by_cases c6:x4_1<(l0.length:Int)
       ·rw [if_pos c6] at H
        have c6b0:decide (x4_1<(l0.length:Int))=true:=decide_eq_true c6
        clear c6
        by_cases c7:x5_2<(((rd_T47 l0 x4_1).f1).length:Int)
        ·rw [if_pos c7] at H
         have c7b0:decide (x5_2<(((rd_T47 l0 x4_1).f1).length:Int))=true:=decide_eq_true c7
         clear c7
         by_cases c8:0≤x5_2
         ·rw [if_pos c8] at H
          have c8b0:decide (0≤x5_2)=true:=decide_eq_true c8
          clear c8
          obtain⟨y241,hy241⟩: ∃y_:List (S66),y_=(([(⟨(rd_T66 ((rd_T47 l0 x4_1).f1) x5_2).f0,(rd_T66 ((rd_T47 l0 x4_1).f1) x5_2).f1⟩:S66)]:List (S66))):=⟨_,rfl⟩
          replace H:(if x3_2.length<4398046511104 then (jalousieref09_Single.l1 k2 l0 (x3_2++ [(⟨(rd_T47 l0 x4_1).f0,y241⟩:S47)]) x4_1 (wrap64 (x5_2+1))) else (none))=some r:=by(rw [hy241];with_reducible exact H)
          have Ny241:=Aside0.mk hy241
          clear hy241
          by_cases c9:x3_2.length<4398046511104
          ·rw [if_pos c9] at H
           have LMc9:=Aside0.mk c9
           clear c9
           obtain⟨y244,hy244⟩: ∃y_:List (S47),y_=(x3_2++ [(⟨(rd_T47 l0 x4_1).f0,y241⟩:S47)]):=⟨_,rfl⟩
           replace H:(jalousieref09_Single.l1 k2 l0 y244 x4_1 (wrap64 (x5_2+1)))=some r:=by(rw [hy244];with_reducible exact H)
           have Ny244:=Aside0.mk hy244
           clear hy244
           have H':=Aside0.mk H
           clear H
           have p237:0≤(x4_1:Int):=of_decide_eq_true (by(with_reducible assumption))
           have q237:x4_1<(l0.length:Int):=of_decide_eq_true (by(with_reducible assumption))
           obtain⟨ad237,A237_1,c237_1,e237,hx237_0,hx237_1,hl237_1,hi237_1⟩:=at_T47 HR0.out x4_1 p237 q237
           cases e237
           replace hx237_0:=(HB.out.cell (World.block_lt_of_cell? w _ hx237_0)).trans hx237_0
           replace hx237_1:=(HB.out.cell (World.block_lt_of_cell? w _ hx237_1)).trans hx237_1
           have HR237_1:=Aside0.mk hi237_1
           have HC237_1:=Aside0.mk hl237_1
           clear hi237_1 hl237_1
           replace p237:=eq_true p237
           replace q237:=eq_true q237
           try go_wp2
           have n0_:=Aside0.mk (Kd.S_drew HO_3.out)
           have n1_:=Aside0.mk (below_drew1 HB.out)
           clear HO_3
           clear HB
           have HO_3:=n0_
           have HB:=n1_
           clear n0_ n1_
           have p238:0≤(x4_1:Int):=of_decide_eq_true (by(with_reducible assumption))
           have q238:x4_1<(l0.length:Int):=of_decide_eq_true (by(with_reducible assumption))
           obtain⟨ad238,A238_1,c238_1,e238,hx238_0,hx238_1,hl238_1,hi238_1⟩:=at_T47 HR0.out x4_1 p238 q238
           have hw238_1:=hx238_1
           have hw238_0:=hx238_0
           obtain rfl:ad237=ad238:=(by injection e238)
           replace hx238_0:=(HB.out.cell (World.block_lt_of_cell? w _ hx238_0)).trans hx238_0
           replace hx238_1:=(HB.out.cell (World.block_lt_of_cell? w _ hx238_1)).trans hx238_1
           have HR238_1:=Aside0.mk hi238_1
           have HC238_1:=Aside0.mk hl238_1
           clear hi238_1 hl238_1
           replace p238:=eq_true p238
           replace q238:=eq_true q238
           have p239:0≤(x4_1:Int):=of_decide_eq_true (by(with_reducible assumption))
           have q239:x4_1<(l0.length:Int):=of_decide_eq_true (by(with_reducible assumption))
           obtain⟨ad239,A239_1,c239_1,e239,hx239_0,hx239_1,hl239_1,hi239_1⟩:=at_T47 HR0.out x4_1 p239 q239
           have hw239_1:=hx239_1
           have hw239_0:=hx239_0
           obtain rfl:ad237=ad239:=(by injection e239)
           replace hx239_0:=(HB.out.cell (World.block_lt_of_cell? w _ hx239_0)).trans hx239_0
           replace hx239_1:=(HB.out.cell (World.block_lt_of_cell? w _ hx239_1)).trans hx239_1
           have HR239_1:=Aside0.mk hi239_1
           have HC239_1:=Aside0.mk hl239_1
           clear hi239_1 hl239_1
           replace p239:=eq_true p239
           replace q239:=eq_true q239
           have ea_:=Option.some.inj (hx238_1.symm.trans hx239_1)
           injection ea_ with ea_ en_ ec_
           subst ea_
           subst ec_
           clear en_
           have p240:0≤(x5_2:Int):=of_decide_eq_true (by(with_reducible assumption))
           have q240:x5_2<(((rd_T47 l0 x4_1).f1).length:Int):=of_decide_eq_true (by(with_reducible assumption))
           obtain⟨ad240,e240,hx240_0,hx240_1⟩:=at_T66 HR239_1.out x5_2 p240 q240
           have hw240_1:=hx240_1
           have hw240_0:=hx240_0
           cases e240
           replace hx240_0:=(HB.out.cell (World.block_lt_of_cell? w _ hx240_0)).trans hx240_0
           replace hx240_1:=(HB.out.cell (World.block_lt_of_cell? w _ hx240_1)).trans hx240_1
           replace p240:=eq_true p240
           replace q240:=eq_true q240
           refine start_ (n:=19) (S:=fun w'=>w'.cell? (ad237.add ((x4_1).toNat*2))=some (.int .i64 ((rd_T47 l0 x4_1).f0))∧w'.cell? ⟨(ad237.add ((x4_1).toNat*2)).block,(ad237.add ((x4_1).toNat*2)).off+1,none⟩=some (.slice (some ad240) ((rd_T47 l0 x4_1).f1).length c238_1)∧w'.cell? (ad237.add ((x4_1).toNat*2))=some (.int .i64 ((rd_T47 l0 x4_1).f0))∧w'.cell? ⟨(ad237.add ((x4_1).toNat*2)).block,(ad237.add ((x4_1).toNat*2)).off+1,none⟩=some (.slice (some ad240) ((rd_T47 l0 x4_1).f1).length c238_1)∧w'.cell? (ad240.add ((x5_2).toNat*2))=some (.string ((rd_T66 ((rd_T47 l0 x4_1).f1) x5_2).f0))∧w'.cell? ⟨(ad240.add ((x5_2).toNat*2)).block,(ad240.add ((x5_2).toNat*2)).off+1,none⟩=some (.bool ((rd_T66 ((rd_T47 l0 x4_1).f1) x5_2).f1))) (ds:= []) (Sq.bl 19 0) (by kernel_rfl) rfl rfl ⟨((HB.out.cell (World.block_lt_of_cell? w _ hw238_0)).trans hw238_0),((HB.out.cell (World.block_lt_of_cell? w _ hw238_1)).trans hw238_1),((HB.out.cell (World.block_lt_of_cell? w _ hw239_0)).trans hw239_0),((HB.out.cell (World.block_lt_of_cell? w _ hw239_1)).trans hw239_1),((HB.out.cell (World.block_lt_of_cell? w _ hw240_0)).trans hw240_0),((HB.out.cell (World.block_lt_of_cell? w _ hw240_1)).trans hw240_1)⟩ (fun hHeld=>?_);refine with_tabW jalousieref09_Single.tab8 jalousieref09_Single.bits8 (fun HT_ HW_=>?_)
           generalize wr.drew=w10 at HO_3 HB HR238_1 HR239_1 hx238_0 hx238_1 hx239_0 hx239_1 hx240_0 hx240_1 hHeld ⊢
           refine Sq.pu (v:=?_) (a':=?_) 0 23 (Sq.bl 19 1) (any_of HT_.out (by kernel_rfl)) rfl rfl (fun _ _ _ h=>h) (by rfl) ?_ ?_ ?_;rotate_left;(· intro w';go_simp;with_reducible rfl);rotate_left;(· simp only [Act.put,zp1,zp2,zp3,zp4,zp5];rfl)
           refine Sq.pu (v:=?_) (a':=?_) 1 24 (Sq.bl 19 3) (any_of HT_.out (by kernel_rfl)) rfl rfl (fun _ _ _ h=>h) (by rfl) ?_ ?_ ?_;rotate_left;(· intro w';go_simp;with_reducible rfl);rotate_left;(· simp only [Act.put,zp1,zp2,zp3,zp4,zp5];rfl)
           refine Sq.pu (v:=?_) (a':=?_) 2 25 (Sq.bl 19 7) (any_of HT_.out (by kernel_rfl)) rfl rfl (fun _ _ _ h=>h) (by rfl) ?_ ?_ ?_;rotate_left;(· intro w';go_simp;with_reducible rfl);rotate_left;(· simp only [Act.put,zp1,zp2,zp3,zp4,zp5];rfl)
           refine Sq.pu (v:=?_) (a':=?_) 3 26 (Sq.bl 19 15) (any_of HT_.out (by kernel_rfl)) rfl rfl (fun _ _ _ h=>h) (by rfl) ?_ ?_ ?_;rotate_left;(· intro w';go_simp;with_reducible rfl);rotate_left;(· simp only [Act.put,zp1,zp2,zp3,zp4,zp5];rfl)
           refine Sq.pu (v:=?_) (a':=?_) 4 27 (Sq.bl 19 31) (any_of HT_.out (by kernel_rfl)) rfl rfl (fun _ _ _ h=>h) (by rfl) ?_ ?_ ?_;rotate_left;(· intro w';go_simp;with_reducible rfl);rotate_left;(· simp only [Act.put,zp1,zp2,zp3,zp4,zp5];rfl)
           refine Sq.pu (v:=?_) (a':=?_) 6 29 (Sq.bl 19 95) (any_of HT_.out (by kernel_rfl)) rfl rfl (fun _ _ _ h=>h) (by rfl) ?_ ?_ ?_;rotate_left;(· intro w';go_simp;with_reducible rfl);rotate_left;(· simp only [Act.put,zp1,zp2,zp3,zp4,zp5];rfl)
           refine Sq.pu (v:=?_) (a':=?_) 7 30 (Sq.bl 19 223) (any_of HT_.out (by kernel_rfl)) rfl rfl (fun _ _ _ h=>h) (by rfl) ?_ ?_ ?_;rotate_left;(· intro w';go_simp;with_reducible rfl);rotate_left;(· simp only [Act.put,zp1,zp2,zp3,zp4,zp5];rfl)
           refine Sq.pu (v:=?_) (a':=?_) 8 31 (Sq.bl 19 479) (any_of HT_.out (by kernel_rfl)) rfl rfl (fun _ _ _ h=>h) (by rfl) ?_ ?_ ?_;rotate_left;(· intro w';go_simp;with_reducible rfl);rotate_left;(· simp only [Act.put,zp1,zp2,zp3,zp4,zp5];rfl)
           refine Sq.pu (v:=?_) (a':=?_) 9 32 (Sq.bl 19 991) (any_of HT_.out (by kernel_rfl)) rfl rfl (fun _ _ _ h=>h) (by rfl) ?_ ?_ ?_;rotate_left;(· intro w';go_simp;with_reducible rfl);rotate_left;(· simp only [Act.put,zp1,zp2,zp3,zp4,zp5];rfl)
           refine Sq.pu (v:=?_) (a':=?_) 11 34 (Sq.bl 19 3039) (any_of HT_.out (by kernel_rfl)) rfl rfl (fun _ _ _ h=>h) (by rfl) ?_ ?_ ?_;rotate_left;(· intro w';go_simp;with_reducible rfl);rotate_left;(· simp only [Act.put,zp1,zp2,zp3,zp4,zp5];rfl)
           refine take_ (i:=5) (N:=some 28) (v:=?_) (a':=?_) (Sq.bl 19 3071) rfl rfl (take_ofW HT_.out HW_.out (by kernel_rfl)) (fun _ _ _ h=>h) (Or.inl ⟨by rfl,?_⟩) hHeld ?_ ?_
           rotate_left
           ·rintro w' ⟨s0,s1,s2,s3,s4,s5⟩
            go_simp
            with_reducible rfl
           rotate_left
           ·simp only [Act.put,zp1,zp2,zp3,zp4,zp5]
            rfl
           refine take_ (i:=10) (N:=some 33) (v:=?_) (a':=?_) (Sq.bl 19 4095) rfl rfl (take_ofW HT_.out HW_.out (by kernel_rfl)) (fun _ _ _ h=>h) (Or.inl ⟨by rfl,?_⟩) hHeld ?_ ?_
           rotate_left
           ·rintro w' ⟨s0,s1,s2,s3,s4,s5⟩
            go_simp
            with_reducible rfl
           rotate_left
           ·simp only [Act.put,zp1,zp2,zp3,zp4,zp5]
            rfl
           refine Sq.pu (v:=?_) (a':=?_) 12 35 (Sq.bl 19 8191) (any_of HT_.out (by kernel_rfl)) rfl rfl (fun _ _ _ h=>h) (by rfl) ?_ ?_ ?_;rotate_left;(· intro w';go_simp;with_reducible rfl);rotate_left;(· simp only [Act.put,zp1,zp2,zp3,zp4,zp5];rfl)
           refine take_ (i:=13) (N:=some 36) (v:=?_) (a':=?_) (Sq.bl 19 16383) rfl rfl (take_ofW HT_.out HW_.out (by kernel_rfl)) (fun _ _ _ h=>h) (Or.inl ⟨by rfl,?_⟩) hHeld ?_ ?_
           rotate_left
           ·rintro w' ⟨s0,s1,s2,s3,s4,s5⟩
            go_simp
            with_reducible rfl
           rotate_left
           ·simp only [Act.put,zp1,zp2,zp3,zp4,zp5]
            rfl
           refine one_ (i:=14) (N:=some 37) (Sq.bl 19 32767) rfl rfl (one_of HT_.out (by kernel_rfl)) (by decide) (fun K hK=>?_)
           refine Kd.R_lit_step k66 _ 66 ?hg (N:=37) ?hd (xs:=([(⟨(rd_T66 ((rd_T47 l0 x4_1).f1) x5_2).f0,(rd_T66 ((rd_T47 l0 x4_1).f1) x5_2).f1⟩:S66)]:List (S66))) (inner:= [.string ((rd_T66 ((rd_T47 l0 x4_1).f1) x5_2).f0), .bool ((rd_T66 ((rd_T47 l0 x4_1).f1) x5_2).f1)]) (ok:=fun _=>True) (okp:=fun _=>True) ?hr ?hp (fun _ hk=>hk) trivial (Below.refl _ _) (Nat.le_refl _) (by simp) ?_;(case hd=>rfl);(case hg=>rfl);(case hr=>(go_simp;done));(case hp=>exact(Reps.c2 (show Kd.M k66 _ _ _ (⟨(rd_T66 ((rd_T47 l0 x4_1).f1) x5_2).f0,(rd_T66 ((rd_T47 l0 x4_1).f1) x5_2).f1⟩:S66) [.string ((rd_T66 ((rd_T47 l0 x4_1).f1) x5_2).f0), .bool ((rd_T66 ((rd_T47 l0 x4_1).f1) x5_2).f1)] from(k66_mkM _ _ _ (⟨(rd_T66 ((rd_T47 l0 x4_1).f1) x5_2).f0,(rd_T66 ((rd_T47 l0 x4_1).f1) x5_2).f1⟩:S66) )) (Reps.none _ _)))
           intro v242 w11 ho12 hb hg_ hnew_
           clear hg_ hnew_
           (rw [← Ny241.out] at ho12)
           have n0_:=Aside0.mk (Kd.S_elder' (by exact HO_3.out) (Kd.R_base ho12) hb)
           have n1_:=Aside0.mk (Kd.R_lower ho12 (below_size (by repeat((with_reducible exact HB.out)))))
           have n2_:=Aside0.mk (below_step (by repeat((with_reducible exact HB.out))) hb)
           clear HO_3
           clear HB
           have HO_3:=n0_
           have HO243:=n1_
           have HB:=n2_
           clear n0_ n1_ n2_
           clear hb ho12
           obtain⟨Ao13,co13,eo13⟩:=Kd.R_slice HO243.out
           (subst eo13)
           refine hK.out _ _ ⟨((HB.out.cell (World.block_lt_of_cell? w _ hw238_0)).trans hw238_0),((HB.out.cell (World.block_lt_of_cell? w _ hw238_1)).trans hw238_1),((HB.out.cell (World.block_lt_of_cell? w _ hw239_0)).trans hw239_0),((HB.out.cell (World.block_lt_of_cell? w _ hw239_1)).trans hw239_1),((HB.out.cell (World.block_lt_of_cell? w _ hw240_0)).trans hw240_0),((HB.out.cell (World.block_lt_of_cell? w _ hw240_1)).trans hw240_1)⟩ (fun hHeld=>?_)
           clear hK K
           refine norm_ (a':=?_) ?_ ?_
           rotate_left
           ·show Act.put _ (some 37) _=_
            simp only [Act.put,zp1,zp2,zp3,zp4,zp5]
            rfl
           refine Sq.pu (v:=?_) (a':=?_) 15 38 (Sq.bl 19 65535) (any_of HT_.out (by kernel_rfl)) rfl rfl (fun _ _ _ h=>h) (by rfl) ?_ ?_ ?_;rotate_left;(· intro w';go_simp;with_reducible rfl);rotate_left;(· simp only [Act.put,zp1,zp2,zp3,zp4,zp5];rfl)
           refine one_ (i:=16) (N:=some 39) (Sq.bl 19 131071) rfl rfl (one_of HT_.out (by kernel_rfl)) (by decide) (fun K hK=>?_)
           refine value_ (w1:=?_) (v:=?_) (by rfl) rfl ?_ ?_
           rotate_left 2
           ·go_simp
            constructor
            ·rfl
            ·rfl
           refine hK.out _ _ ⟨(World.cell?_alloc_lt _ _ _ (World.block_lt_of_cell? _ _ (((HB.out.cell (World.block_lt_of_cell? w _ hw238_0)).trans hw238_0)))).trans (((HB.out.cell (World.block_lt_of_cell? w _ hw238_0)).trans hw238_0)),(World.cell?_alloc_lt _ _ _ (World.block_lt_of_cell? _ _ (((HB.out.cell (World.block_lt_of_cell? w _ hw238_1)).trans hw238_1)))).trans (((HB.out.cell (World.block_lt_of_cell? w _ hw238_1)).trans hw238_1)),(World.cell?_alloc_lt _ _ _ (World.block_lt_of_cell? _ _ (((HB.out.cell (World.block_lt_of_cell? w _ hw239_0)).trans hw239_0)))).trans (((HB.out.cell (World.block_lt_of_cell? w _ hw239_0)).trans hw239_0)),(World.cell?_alloc_lt _ _ _ (World.block_lt_of_cell? _ _ (((HB.out.cell (World.block_lt_of_cell? w _ hw239_1)).trans hw239_1)))).trans (((HB.out.cell (World.block_lt_of_cell? w _ hw239_1)).trans hw239_1)),(World.cell?_alloc_lt _ _ _ (World.block_lt_of_cell? _ _ (((HB.out.cell (World.block_lt_of_cell? w _ hw240_0)).trans hw240_0)))).trans (((HB.out.cell (World.block_lt_of_cell? w _ hw240_0)).trans hw240_0)),(World.cell?_alloc_lt _ _ _ (World.block_lt_of_cell? _ _ (((HB.out.cell (World.block_lt_of_cell? w _ hw240_1)).trans hw240_1)))).trans (((HB.out.cell (World.block_lt_of_cell? w _ hw240_1)).trans hw240_1))⟩ (fun hHeld=>?_)
           clear hK K
           refine norm_ (a':=?_) ?_ ?_
           rotate_left
           ·show Act.put _ (some 39) _=_
            simp only [Act.put,zp1,zp2,zp3,zp4,zp5]
            rfl
           refine one_ (i:=17) (N:=some 40) (Sq.bl 19 262143) rfl rfl (one_of HT_.out (by kernel_rfl)) (by decide) (fun K hK=>?_)
           refine Kd.S_append_step k47 (w0:=w) w.heap.size (by rfl) (.tmp 23) (.tmp 39) 22 47 (.agg #[(.int .i64 0),(.slice none 0 0)]) 32 rfl Try.underlying22 info47 rfl (by decide) (by omega) u3 x3_2 (⟨(rd_T47 l0 x4_1).f0,y241⟩:S47) [.int .i64 ((rd_T47 l0 x4_1).f0), .slice Ao13 y241.length co13] (fun _=>True) (fun k_=>some k_=(.slice Ao13 y241.length co13:Value).ownBlock) rfl rfl ?aP (fun k_ hk_=>((Kd.R_mono (ok':=fun k_=>((fun _=>True)) k_∧some k_≠(u3:Value).ownBlock) (Kd.R_apart' (HO243.out) (Kd.S_typed HO_3.out) (by decide)) (fun k_ hk=>⟨trivial,hk.2⟩))).1 k_ hk_.symm) ?aF ?aO ?aB ?aS ?aL ?_
           (case aP=>exact k47_mkM _ _ _ (⟨(rd_T47 l0 x4_1).f0,y241⟩:S47) (Kd.R_mono (Kd.R_tight rfl (Kd.R_mono (ok':=fun k_=>((fun _=>True)) k_∧some k_≠(u3:Value).ownBlock) (Kd.R_apart' (HO243.out) (Kd.S_typed HO_3.out) (by decide)) (fun k_ hk=>⟨trivial,hk.2⟩))) (fun _ h_=>h_)))
           (case aB=>exact(by repeat((with_reducible exact HB.out))))
           (case aF=>exact(fun _ _=>trivial))
           (case aO=>exact(by exact Kd.S_mono HO_3.out (fun k_ hk=>⟨trivial,fun e_=>hk.2 e_⟩)))
           (case aS=>exact(below_size (by repeat((with_reducible exact HB.out)))))
           (case aL=>have:=LMc9.out;omega)
           intro v245 w14 ho hb hg hat
           rw [← Ny244.out] at ho
           have n0_:=Aside0.mk (hb)
           have n1_:=Aside0.mk (ho)
           clear HB
           clear HO_3
           clear HO243
           have HB:=n0_
           have HO246:=n1_
           clear n0_ n1_
           clear ho hb hg hat
           refine hK.out _ _ ⟨((HB.out.cell (World.block_lt_of_cell? w _ hw238_0)).trans hw238_0),((HB.out.cell (World.block_lt_of_cell? w _ hw238_1)).trans hw238_1),((HB.out.cell (World.block_lt_of_cell? w _ hw239_0)).trans hw239_0),((HB.out.cell (World.block_lt_of_cell? w _ hw239_1)).trans hw239_1),((HB.out.cell (World.block_lt_of_cell? w _ hw240_0)).trans hw240_0),((HB.out.cell (World.block_lt_of_cell? w _ hw240_1)).trans hw240_1)⟩ (fun hHeld=>?_)
           clear hK K
           refine norm_ (a':=?_) ?_ ?_
           rotate_left
           ·show Act.put _ (some 40) _=_
            simp only [Act.put,zp1,zp2,zp3,zp4,zp5]
            rfl
           refine Sq.pu (v:=?_) (a':=?_) 18 3 (Sq.bl 19 524287) (any_of HT_.out (by kernel_rfl)) rfl rfl (fun _ _ _ h=>h) (by rfl) ?_ ?_ ?_;rotate_left;(· intro w';go_simp;with_reducible rfl);rotate_left;(· simp only [Act.put,zp1,zp2,zp3,zp4,zp5];rfl)
           refine done_ (done_of HT_.out (by kernel_rfl)) ?_
           try go_wp2
           go_roundg k2
           case measure=>have:=HK1.out;have:=HK2.out;omega
           case rel=>exact⟨(y244),(wrap64 (x5_2+1)),(by rfl),H',⟨by have:=HK1.out;have:=HK2.out;omega⟩,⟨by exact HO246.out⟩,⟨by repeat((with_reducible exact HB.out))⟩⟩
          ·rw [if_neg c9] at H
           exact absurd H (by simp)
         ·rw [if_neg c8] at H
          exact absurd H (by simp)
        ·rw [if_neg c7] at H
         have c7b0:decide (x5_2<(((rd_T47 l0 x4_1).f1).length:Int))=false:=decide_eq_false c7
         clear c7
         have H':=Aside0.mk H
         clear H
         have p237:0≤(x4_1:Int):=of_decide_eq_true (by(with_reducible assumption))
         have q237:x4_1<(l0.length:Int):=of_decide_eq_true (by(with_reducible assumption))
         obtain⟨ad237,A237_1,c237_1,e237,hx237_0,hx237_1,hl237_1,hi237_1⟩:=at_T47 HR0.out x4_1 p237 q237
         cases e237
         replace hx237_0:=(HB.out.cell (World.block_lt_of_cell? w _ hx237_0)).trans hx237_0
         replace hx237_1:=(HB.out.cell (World.block_lt_of_cell? w _ hx237_1)).trans hx237_1
         have HR237_1:=Aside0.mk hi237_1
         have HC237_1:=Aside0.mk hl237_1
         clear hi237_1 hl237_1
         replace p237:=eq_true p237
         replace q237:=eq_true q237
         go_wp2
         go_roundg k2
         case measure=>have:=HK1.out;have:=HK2.out;omega
         case rel=>exact⟨(x3_2),(wrap64 (x4_1+1)),(by rfl),H',⟨by have:=HK1.out;have:=HK2.out;omega⟩,⟨by exact HO_3.out⟩,⟨by repeat((with_reducible exact HB.out))⟩⟩
       ·rw [if_neg c6] at H
        exact absurd H (by simp)
      ·rw [if_neg c5] at H
       exact absurd H (by simp)
   ·rw [if_neg c4] at H
    have c4b0:decide (x4_1<(l0.length:Int))=false:=decide_eq_false c4
    clear c4
    obtain rfl:=Option.some.inj H
    go_wp2
    go_ret
    exact⟨_,by rfl,by exact HO_3.out,by repeat((with_reducible exact HB.out))⟩
end Go.Proofs.Ytfnbodjmmkjlcaa.H
end
section
namespace Go.Proofs.Ytfnbodjmmkjlcaa.H
open Go.RowKit Go.Proofs.YtfnbodjmmkjlcaaW.PrintWords Go.Proofs.YtfnbodjmmkjlcaaW.PrintLast Go.Proofs.YtfnbodjmmkjlcaaW.PrintMore
attribute [local go_sem] max2_int min2_int max_two min_two max_three min_three max_four min_four
set_option linter.unusedVariables false
set_option linter.unusedSimpArgs false
def jalousieref09_near.l0:Nat→List (S47)→Int→Int→Int→Option (Bool)
 | 0,_,_,_,_=>none
 | k+1,x0,x1,x2,x7=>if x7≤(wrap64 (x1+x2)) then (if x7≥0 then (if x7<(x0.length:Int) then (if 0≤x7 then (if ((rd_T47 x0 x7).f0)=1 then (jalousieref09_near.l0 k x0 x1 x2 (wrap64 (x7+1))) else (some true)) else (none)) else (jalousieref09_near.l0 k x0 x1 x2 (wrap64 (x7+1)))) else (jalousieref09_near.l0 k x0 x1 x2 (wrap64 (x7+1)))) else (some false)
def jalousieref09_near.f (k:Nat) (l0:List (S47)) (a1:Int) (a2:Int):Option (Bool):=jalousieref09_near.l0 k l0 a1 a2 (wrap64 (a1-a2))
set_option maxHeartbeats 8000000 in
set_option maxRecDepth 100000 in
theorem jalousieref09_near.calls (k:Nat) (A0:Option Addr) (c0:Nat) (l0:List (S47)) (a1:Int) (a2:Int) (r:Bool) (w:World) (hr0:Kd.C k47 w A0 l0.length l0) (hc0:l0.length≤c0) (h:jalousieref09_near.f k l0 a1 a2=some r):
  Calls Try.prog 46 #[.slice A0 l0.length c0, .int .i64 a1, .int .i64 a2] w fun e w'=>e= .returned (.bool r)∧Drawn0 w w':=by
 have HR0:=Aside0.mk hr0
 have HC0:=Aside0.mk hc0
 clear hr0 hc0
 have H:(jalousieref09_near.l0 k l0 a1 a2 (wrap64 (a1-a2)))=some r:=h
 clear h
 have H':=Aside0.mk H
 clear H
 go_enter Try.func46,Try.ntmps46
 go_wp2
 go_loopg [7] k (fun kq v7 w'=> ∃(x7_1:Int),v7= .int .i64 x7_1∧Aside0 (jalousieref09_near.l0 kq l0 a1 a2 x7_1=some r)∧Aside0 (kq≤k)∧Drawn0 w w')
 case atStart=>exact⟨(wrap64 (a1-a2)),(by rfl),H',⟨Nat.le_refl _⟩,by repeat(exact Drawn0.refl _)⟩
 case round=>
  clear H'
  obtain⟨x7_1,rfl,HA,HK1,⟨m1,rfl⟩⟩:=hrel
  cases gk with
  | zero=>exact absurd HA.out (by simp [jalousieref09_near.l0])
  | succ k1=>
   have H:=HA.out
   clear HA
   simp only [jalousieref09_near.l0] at H
   by_cases c4:x7_1≤(wrap64 (a1+a2))
   ·rw [if_pos c4] at H
    have c4b0:decide (x7_1≤(wrap64 (a1+a2)))=true:=decide_eq_true c4
    clear c4
    by_cases c5:x7_1≥0
    ·rw [if_pos c5] at H
     have c5b0:decide (0≤x7_1)=true:=decide_eq_true c5
     clear c5
     by_cases c6:x7_1<(l0.length:Int)
     ·rw [if_pos c6] at H
      have c6b0:decide (x7_1<(l0.length:Int))=true:=decide_eq_true c6
      clear c6
      by_cases c7:0≤x7_1
      ·rw [if_pos c7] at H
       have c7b0:decide (0≤x7_1)=true:=decide_eq_true c7
       clear c7
       by_cases c8:((rd_T47 l0 x7_1).f0)=1
       ·rw [if_pos c8] at H
        have c8b0:(((rd_T47 l0 x7_1).f0)==1)=true:=beq_iff_eq.mpr c8
        have c8b1:(((rd_T47 l0 x7_1).f0) != 1)=false:=bne_eq_false_iff_eq.mpr c8
        clear c8
        have H':=Aside0.mk H
        clear H
        have p247:0≤(x7_1:Int):=of_decide_eq_true (by(with_reducible assumption))
        have q247:x7_1<(l0.length:Int):=of_decide_eq_true (by(with_reducible assumption))
        obtain⟨ad247,A247_1,c247_1,e247,hx247_0,hx247_1,hl247_1,hi247_1⟩:=at_T47 HR0.out x7_1 p247 q247
        cases e247
        have HR247_1:=Aside0.mk hi247_1
        have HC247_1:=Aside0.mk hl247_1
        clear hi247_1 hl247_1
        replace p247:=eq_true p247
        replace q247:=eq_true q247
        go_wp2
        go_roundg k1
        case measure=>have:=HK1.out;omega
        case rel=>exact⟨(wrap64 (x7_1+1)),(by rfl),H',⟨by have:=HK1.out;omega⟩,by repeat(first|exact Drawn0.refl _|apply Drawn0.step)⟩
       ·rw [if_neg c8] at H
        have c8b0:(((rd_T47 l0 x7_1).f0)==1)=false:=beq_eq_false_iff_ne.mpr c8
        have c8b1:(((rd_T47 l0 x7_1).f0) != 1)=true:=bne_iff_ne.mpr c8
        obtain rfl:=Option.some.inj H
        have p247:0≤(x7_1:Int):=of_decide_eq_true (by(with_reducible assumption))
        have q247:x7_1<(l0.length:Int):=of_decide_eq_true (by(with_reducible assumption))
        obtain⟨ad247,A247_1,c247_1,e247,hx247_0,hx247_1,hl247_1,hi247_1⟩:=at_T47 HR0.out x7_1 p247 q247
        cases e247
        have HR247_1:=Aside0.mk hi247_1
        have HC247_1:=Aside0.mk hl247_1
        clear hi247_1 hl247_1
        replace p247:=eq_true p247
        replace q247:=eq_true q247
        go_wp2
        go_ret
        exact⟨by rfl,by repeat(first|exact Drawn0.refl _|apply Drawn0.step)⟩
      ·rw [if_neg c7] at H
       exact absurd H (by simp)
     ·rw [if_neg c6] at H
      have c6b0:decide (x7_1<(l0.length:Int))=false:=decide_eq_false c6
      clear c6
      have H':=Aside0.mk H
      clear H
      go_wp2
      go_roundg k1
      case measure=>have:=HK1.out;omega
      case rel=>exact⟨(wrap64 (x7_1+1)),(by rfl),H',⟨by have:=HK1.out;omega⟩,by repeat(first|exact Drawn0.refl _|apply Drawn0.step)⟩
    ·rw [if_neg c5] at H
     have c5b0:decide (0≤x7_1)=false:=decide_eq_false c5
     clear c5
     have H':=Aside0.mk H
     clear H
     go_wp2
     go_roundg k1
     case measure=>have:=HK1.out;omega
     case rel=>exact⟨(wrap64 (x7_1+1)),(by rfl),H',⟨by have:=HK1.out;omega⟩,by repeat(first|exact Drawn0.refl _|apply Drawn0.step)⟩
   ·rw [if_neg c4] at H
    have c4b0:decide (x7_1≤(wrap64 (a1+a2)))=false:=decide_eq_false c4
    clear c4
    obtain rfl:=Option.some.inj H
    go_wp2
    go_ret
    exact⟨by rfl,by repeat(first|exact Drawn0.refl _|apply Drawn0.step)⟩
end Go.Proofs.Ytfnbodjmmkjlcaa.H
end
