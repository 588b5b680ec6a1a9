/-
  What the claim needs of the words, of the walks and of the plain proofs, in one row (11).
-/
import Derived.Lib.IndexAny
import Derived.Deep.RegionHeld3
import Derived.WalkLawsBesides
import Derived.WalkSpells
import Derived.RangeFuncNested
import Derived.RangeFuncBound
import Derived.RangeFuncCalls
import Derived.RangeFuncLeaves
import Derived.RangeFuncBox
import Derived.RangeFuncMany
import Derived.Shelf.Abstract
import Derived.OwnWalkIn
import Derived.TacticsInMore
import Derived.LoopNIn
import Derived.LoopIn
import Derived.Test.YtfnbodjmmkjlcaaZ0
import Derived.Test.YtfnbodjmmkjlcaaZ1
import Derived.Test.YtfnbodjmmkjlcaaZ2
import Derived.Test.YtfnbodjmmkjlcaaZ3
import Derived.Test.YtfnbodjmmkjlcaaZ4
import Derived.Test.YtfnbodjmmkjlcaaZ5
import Derived.Test.YtfnbodjmmkjlcaaZ6
import Derived.Test.YtfnbodjmmkjlcaaZ7
import Derived.Test.YtfnbodjmmkjlcaaZ8
import Derived.Test.YtfnbodjmmkjlcaaZ9
import Derived.Test.YtfnbodjmmkjlcaaZ10
section
namespace Go.Proofs.Ytfnbodjmmkjlcaa.H
open Go.RowKit Go.Proofs.YtfnbodjmmkjlcaaW.PrintWords Go.Proofs.YtfnbodjmmkjlcaaW.PrintLast Go.Proofs.YtfnbodjmmkjlcaaW.PrintMore
set_option linter.unusedVariables false
set_option linter.unusedSimpArgs false
theorem rdE (l:List S47) (i:Nat):rd_T47 l (i:Int)=l.getD i z47:=by simp [rd_T47]
theorem rdH (l:List S44) (i:Nat):rd_T44 l (i:Int)=l.getD i z44:=by simp [rd_T44]
theorem rdL (l:List S66) (i:Nat):rd_T66 l (i:Int)=l.getD i z66:=by simp [rd_T66]
theorem getD_mem {α:Type} {l:List α} {i:Nat} (h:i<l.length) (d:α):l.getD i d∈l:=by
  rw [getD_lt h]
  exact List.getElem_mem h
def nl (s:List S47):Nat:=(s.map (fun e=>e.f1.length)).sum
theorem nl_cons (x:S47) (s:List S47):nl (x::s)=x.f1.length+nl s:=by simp [nl]
theorem nl_nil:nl []=0:=rfl
theorem nl_append (s t:List S47):nl (s++t)=nl s+nl t:=by simp [nl]
theorem nl_lines (s:List S47):script_normal.lines s=nl s:=rfl
def allok (s:List S47):Bool:=s.all fun x=>decide (1≤x.f0∧x.f0≤3)
theorem allok_cons (x:S47) (s:List S47):allok (x::s)=(decide (1≤x.f0∧x.f0≤3)&&allok s):=by simp [allok]
def Fit (s:List S47):Prop:=s.length≤4398046511104∧ ∀x∈s,x.f1.length≤5864062014805
def chk (s:List S47):Int:=if 800<s.length then 4 else if 800<nl s then 4 else if allok s=true then 0 else 3
theorem chk_zero {s:List S47}:chk s=0↔s.length≤800∧nl s≤800∧allok s=true:=by
  unfold chk
  by_cases h1:800<s.length
  · rw [if_pos h1]
    constructor
    · intro h
      cases h
    · omega
  · rw [if_neg h1]
    by_cases h2:800<nl s
    · rw [if_pos h2]
      constructor
      · intro h
        cases h
      · omega
    · rw [if_neg h2]
      by_cases h3:allok s=true
      · rw [if_pos h3]
        simp [h3]
        omega
      · rw [if_neg h3]
        simp [h3]
theorem chk_l0 (s:List S47) (hf:Fit s): ∀(d i n:Nat) (e:Int),i+d=s.length→n≤800→Ev (fun k=>script_Check.l0 k (n:Int) e s (s.length:Int) (i:Int)) (if 800<n+nl (s.drop i) then 4 else if allok (s.drop i)=true then e else 3)
  | 0,i,n,e,h,hn=>by
    refine ev_succ ?_
    simp only [script_Check.l0]
    have:=hf.1
    (repeat(first|refine ev_pos (by omega) ?_|refine ev_neg (by omega) ?_))
    rw [List.drop_of_length_le (by omega)]
    exact ev_some (by rw [if_neg (by rw [nl_nil];omega)];rfl)
  | d+1,i,n,e,h,hn=>by
    have h1:=hf.1
    have hx:=hf.2 _ (getD_mem (l:=s) (i:=i) (by omega) z47)
    rw [drop_cons s i (by omega) z47]
    refine ev_succ ?_
    simp only [script_Check.l0,rdE]
    rw [w64s i (by omega)]
    generalize s.getD i z47=x at hx
    have hm:mn (wrap64 ((n:Int)+(x.f1.length:Int))) 801=((min (n+x.f1.length) 801:Nat):Int):=by
      unfold mn wrap64
      split<;>omega
    rw [hm,nl_cons,allok_cons]
    refine ev_pos (by omega) ?_
    refine ev_pos (by omega) ?_
    refine ev_pos (by omega) ?_
    by_cases hc:800<n+x.f1.length
    · refine ev_pos (by omega) ?_
      exact ev_some (by rw [if_pos (by omega)])
    · refine ev_neg (by omega) ?_
      rw [Nat.min_eq_left (by omega)]
      by_cases h3:x.f0<1
      · refine ev_pos h3 ?_
        refine ev_cast (chk_l0 s hf d (i+1) (n+x.f1.length) 3 (by omega) (by omega)) ?_
        rw [decide_eq_false (by omega),Bool.false_and,Nat.add_assoc]
        split
        · rfl
        · simp
      · refine ev_neg h3 ?_
        by_cases h4:x.f0>3
        · refine ev_pos h4 ?_
          refine ev_cast (chk_l0 s hf d (i+1) (n+x.f1.length) 3 (by omega) (by omega)) ?_
          rw [decide_eq_false (by omega),Bool.false_and,Nat.add_assoc]
          split
          · rfl
          · simp
        · refine ev_neg h4 ?_
          refine ev_cast (chk_l0 s hf d (i+1) (n+x.f1.length) e (by omega) (by omega)) ?_
          rw [decide_eq_true (by omega),Bool.true_and,Nat.add_assoc]
theorem chk_ev (s:List S47) (hf:Fit s):Ev (fun k=>script_Check.f k s) (chk s):=by
  unfold script_Check.f chk
  by_cases h:800<s.length
  · refine ev_pos (by omega) ?_
    exact ev_some (by rw [if_pos h])
  · refine ev_neg (by omega) ?_
    refine ev_cast (chk_l0 s hf s.length 0 0 0 (by omega) (by omega)) ?_
    rw [if_neg h,List.drop_zero,Nat.zero_add]
theorem rchk_l1 (s:List S47) (hf:Fit s): ∀(d i:Nat),i+d=s.length→Ev (fun k=>jalousieref08_Check.l1 k s (i:Int)) (if allok (s.drop i)=true then 0 else 3)
  | 0,i,h=>by
    refine ev_succ ?_
    simp only [jalousieref08_Check.l1]
    have:=hf.1
    (repeat(first|refine ev_pos (by omega) ?_|refine ev_neg (by omega) ?_))
    rw [List.drop_of_length_le (by omega)]
    exact ev_some (by rfl)
  | d+1,i,h=>by
    have h1:=hf.1
    rw [drop_cons s i (by omega) z47]
    refine ev_succ ?_
    simp only [jalousieref08_Check.l1,rdE]
    rw [w64s i (by omega),allok_cons]
    generalize s.getD i z47=x
    refine ev_pos (by omega) ?_
    refine ev_pos (by omega) ?_
    have ih:=rchk_l1 s hf d (i+1) (by omega)
    by_cases a1:x.f0=1
    · refine ev_pos a1 (ev_cast ih ?_)
      rw [decide_eq_true (by omega),Bool.true_and]
    · refine ev_neg a1 ?_
      by_cases a2:x.f0=2
      · refine ev_pos a2 (ev_cast ih ?_)
        rw [decide_eq_true (by omega),Bool.true_and]
      · refine ev_neg a2 ?_
        by_cases a3:x.f0=3
        · refine ev_pos a3 (ev_cast ih ?_)
          rw [decide_eq_true (by omega),Bool.true_and]
        · refine ev_neg a3 (ev_some ?_)
          rw [decide_eq_false (by omega),Bool.false_and]
          rfl
theorem rchk_l0 (s:List S47) (hf:Fit s): ∀(d i n:Nat),i+d=s.length→n≤800→Ev (fun k=>jalousieref08_Check.l0 k s (n:Int) (i:Int)) (if 800<n+nl (s.drop i) then 4 else if allok s=true then 0 else 3)
  | 0,i,n,h,hn=>by
    refine ev_succ ?_
    simp only [jalousieref08_Check.l0]
    have:=hf.1
    (repeat(first|refine ev_pos (by omega) ?_|refine ev_neg (by omega) ?_))
    rw [List.drop_of_length_le (by omega)]
    refine ev_cast (rchk_l1 s hf s.length 0 (by omega)) ?_
    rw [List.drop_zero,if_neg (show ¬800<n+nl [] by rw [nl_nil];omega)]
  | d+1,i,n,h,hn=>by
    have h1:=hf.1
    have hx:=hf.2 _ (getD_mem (l:=s) (i:=i) (by omega) z47)
    rw [drop_cons s i (by omega) z47]
    refine ev_succ ?_
    simp only [jalousieref08_Check.l0,rdE]
    rw [w64s i (by omega)]
    generalize s.getD i z47=x at hx
    rw [w64i (800-(n:Int)) (by omega) (by omega),w64i ((n:Int)+(x.f1.length:Int)) (by omega) (by omega),nl_cons]
    refine ev_pos (by omega) ?_
    refine ev_pos (by omega) ?_
    by_cases hc:800<n+x.f1.length
    · refine ev_pos (by omega) ?_
      exact ev_some (by rw [if_pos (by omega)])
    · refine ev_neg (by omega) ?_
      refine ev_cast (rchk_l0 s hf d (i+1) (n+x.f1.length) (by omega) (by omega)) ?_
      rw [Nat.add_assoc]
theorem rchk_ev (s:List S47) (hf:Fit s):Ev (fun k=>jalousieref08_Check.f k s) (chk s):=by
  unfold jalousieref08_Check.f chk
  by_cases h:800<s.length
  · refine ev_pos (by omega) ?_
    exact ev_some (by rw [if_pos h])
  · refine ev_neg (by omega) ?_
    refine ev_cast (rchk_l0 s hf s.length 0 0 (by omega) (by omega)) ?_
    rw [if_neg h,List.drop_zero,Nat.zero_add]
def side (s:List S47) (but:Int):List S66:=s.flatMap fun x=>if x.f0=but then [] else x.f1
theorem side_cons (x:S47) (s:List S47) (b:Int):side (x::s) b=(if x.f0=b then [] else x.f1)++side s b:=by simp [side]
theorem side_append (s t:List S47) (b:Int):side (s++t) b=side s b++side t b:=by simp [side]
theorem sides_l0 (s:List S47) (hok:allok s=true) (hn:nl s≤800) (hl:s.length≤800): ∀(d i:Nat) (a b:List S66),i+d=s.length→a.length+nl (s.drop i)≤800→b.length+nl (s.drop i)≤800→Ev (fun k=>script_sides.l0 k a b s (s.length:Int) (i:Int)) (a++side (s.drop i) 3,b++side (s.drop i) 2)
  | 0,i,a,b,h,ha,hb=>by
    refine ev_succ ?_
    simp only [script_sides.l0]
    (repeat(first|refine ev_pos (by omega) ?_|refine ev_neg (by omega) ?_))
    rw [List.drop_of_length_le (by omega)]
    exact ev_some (by simp [side])
  | d+1,i,a,b,h,ha,hb=>by
    have hx:1≤(s.getD i z47).f0∧(s.getD i z47).f0≤3:=by
      have:=List.all_eq_true.1 hok _ (getD_mem (l:=s) (i:=i) (by omega) z47)
      simpa using this
    rw [drop_cons s i (by omega) z47] at ha hb ⊢
    rw [nl_cons] at ha hb
    refine ev_succ ?_
    simp only [script_sides.l0,rdE]
    rw [w64s i (by omega)]
    generalize s.getD i z47=x at hx ha hb
    rw [side_cons,side_cons]
    refine ev_pos (by omega) ?_
    refine ev_pos (by omega) ?_
    refine ev_pos (by omega) ?_
    by_cases a1:x.f0=1
    · refine ev_pos a1 ?_
      (repeat(first|refine ev_pos (by omega) ?_|refine ev_neg (by omega) ?_))
      refine ev_cast (sides_l0 s hok hn hl d (i+1) _ _ (by omega) (by rw [List.length_append];omega) (by rw [List.length_append];omega)) ?_
      rw [if_neg (by omega),if_neg (by omega),List.append_assoc,List.append_assoc]
    · refine ev_neg a1 ?_
      by_cases a2:x.f0=2
      · refine ev_pos a2 ?_
        (repeat(first|refine ev_pos (by omega) ?_|refine ev_neg (by omega) ?_))
        refine ev_cast (sides_l0 s hok hn hl d (i+1) _ _ (by omega) (by rw [List.length_append];omega) (by omega)) ?_
        rw [if_neg (by omega),if_pos a2,List.append_assoc,List.nil_append]
      · refine ev_neg a2 ?_
        (repeat(first|refine ev_pos (by omega) ?_|refine ev_neg (by omega) ?_))
        refine ev_cast (sides_l0 s hok hn hl d (i+1) _ _ (by omega) (by omega) (by rw [List.length_append];omega)) ?_
        rw [if_pos (by omega),if_neg a2,List.append_assoc,List.nil_append]
def sds (s:List S47):List S66×List S66×Int:=if chk s=0 then (side s 3,side s 2,0) else ([],[],chk s)
theorem sides_ev (s:List S47) (hf:Fit s):Ev (fun k=>script_Sides.f k s) (sds s):=by
  unfold script_Sides.f sds
  refine Ev.bind (chk_ev s hf) ?_
  by_cases h:chk s=0
  · refine ev_pos h ?_
    rw [if_pos h]
    obtain⟨h1,h2,h3⟩:=chk_zero.1 h
    refine Ev.bind (a:=(side s 3,side s 2)) ?_ (ev_some rfl)
    unfold script_sides.f
    refine ev_cast (sides_l0 s h3 h2 h1 s.length 0 [] [] (by omega) (by simpa using h2) (by simpa using h2)) ?_
    simp
  · refine ev_neg h ?_
    rw [if_neg h]
    exact ev_some rfl
def chg (s:List S47):Nat:=(s.map fun x=>if x.f0=2∨x.f0=3 then x.f1.length else 0).sum
theorem chg_cons (x:S47) (s:List S47):chg (x::s)=(if x.f0=2∨x.f0=3 then x.f1.length else 0)+chg s:=by simp [chg]
theorem chg_append (s t:List S47):chg (s++t)=chg s+chg t:=by simp [chg]
theorem chg_l0 (s:List S47) (hn:nl s≤1000000000000000000) (hl:s.length≤1000000000000000000): ∀(d i n:Nat),i+d=s.length→n+nl (s.drop i)≤1000000000000000000→Ev (fun k=>script_Changed.l0 k (n:Int) s (s.length:Int) (i:Int)) ((n+chg (s.drop i):Nat):Int)
  | 0,i,n,h,ha=>by
    refine ev_succ ?_
    simp only [script_Changed.l0]
    (repeat(first|refine ev_pos (by omega) ?_|refine ev_neg (by omega) ?_))
    rw [List.drop_of_length_le (by omega)]
    exact ev_some (by simp [chg])
  | d+1,i,n,h,ha=>by
    rw [drop_cons s i (by omega) z47] at ha ⊢
    rw [nl_cons] at ha
    refine ev_succ ?_
    simp only [script_Changed.l0,rdE]
    rw [w64s i (by omega)]
    generalize s.getD i z47=x at ha
    rw [chg_cons]
    refine ev_pos (by omega) ?_
    refine ev_pos (by omega) ?_
    refine ev_pos (by omega) ?_
    have hw:wrap64 ((n:Int)+(x.f1.length:Int))=((n+x.f1.length:Nat):Int):=by
      unfold wrap64
      omega
    by_cases a1:x.f0=2
    · refine ev_pos a1 ?_
      rw [hw]
      refine ev_cast (chg_l0 s hn hl d (i+1) _ (by omega) (by omega)) ?_
      rw [if_pos (Or.inl a1),Nat.add_assoc]
    · refine ev_neg a1 ?_
      by_cases a2:x.f0=3
      · refine ev_pos a2 ?_
        rw [hw]
        refine ev_cast (chg_l0 s hn hl d (i+1) _ (by omega) (by omega)) ?_
        rw [if_pos (Or.inr a2),Nat.add_assoc]
      · refine ev_neg a2 ?_
        refine ev_cast (chg_l0 s hn hl d (i+1) _ (by omega) (by omega)) ?_
        rw [if_neg (by omega),Nat.zero_add]
theorem chg_ev (s:List S47) (hn:nl s≤1000000000000000000) (hl:s.length≤1000000000000000000):Ev (fun k=>script_Changed.f k s) (chg s:Int):=by
  unfold script_Changed.f
  refine ev_cast (chg_l0 s hn hl s.length 0 0 (by omega) (by simpa using hn)) ?_
  simp
end Go.Proofs.Ytfnbodjmmkjlcaa.H
namespace Go.Proofs.Ytfnbodjmmkjlcaa.H
open Go.RowKit Go.Proofs.YtfnbodjmmkjlcaaW.PrintWords Go.Proofs.YtfnbodjmmkjlcaaW.PrintLast Go.Proofs.YtfnbodjmmkjlcaaW.PrintMore
set_option linter.unusedVariables false
set_option linter.unusedSimpArgs false
instance decL:DecidableEq S66:=fun a b=>decidable_of_iff (a.f0=b.f0∧a.f1=b.f1) ⟨fun h=>by cases a;cases b;simp at h;simp [h],fun h=>h▸⟨rfl,rfl⟩⟩
instance decE:DecidableEq S47:=fun a b=>decidable_of_iff (a.f0=b.f0∧a.f1=b.f1) ⟨fun h=>by cases a;cases b;simp at h;simp [h],fun h=>h▸⟨rfl,rfl⟩⟩
instance decH:DecidableEq S44:=fun a b=>decidable_of_iff (a.f0=b.f0∧a.f1=b.f1∧a.f2=b.f2∧a.f3=b.f3∧a.f4=b.f4) ⟨fun h=>by cases a;cases b;simp at h;simp [h],fun h=>h▸⟨rfl,rfl,rfl,rfl,rfl⟩⟩
theorem line_ne (a b:S66):(!((a.f0.toList)==(b.f0.toList))||(!((a.f1)==(b.f1))))= !decide (a=b):=by
  rw [ba_beq]
  by_cases h:a=b
  · subst h
    simp
  · rw [decide_eq_false h]
    by_cases h0:a.f0=b.f0
    · have h1:a.f1≠b.f1:=fun h1=>h (by cases a;cases b;simp at h0 h1;simp [h0,h1])
      simp [h0,h1]
    · simp [h0]
theorem decide_cons {α:Type} [DecidableEq α] (a b:α) (s t:List α):decide (a::s=b::t)=(decide (a=b)&&decide (s=t)):=by
  by_cases h:a=b
  · subst h
    by_cases h2:s=t
    · simp [h2]
    · simp [h2]
  · simp [h]
theorem lsame_l0 (s t:List S66) (hl:s.length=t.length) (hs:s.length≤9000000000000000000): ∀(d i:Nat),i+d=s.length→Ev (fun k=>jalousieref01_Same.l0 k s t (i:Int)) (decide (s.drop i=t.drop i))
  | 0,i,h=>by
    refine ev_succ ?_
    simp only [jalousieref01_Same.l0]
    (repeat(first|refine ev_pos (by omega) ?_|refine ev_neg (by omega) ?_))
    rw [List.drop_of_length_le (by omega),List.drop_of_length_le (by omega)]
    exact ev_some (by simp)
  | d+1,i,h=>by
    refine ev_succ ?_
    simp only [jalousieref01_Same.l0,rdL]
    rw [w64s i (by omega),drop_cons s i (by omega) z66,drop_cons t i (by omega) z66,decide_cons,line_ne]
    refine ev_pos (by omega) ?_
    refine ev_pos (by omega) ?_
    refine ev_pos (by omega) ?_
    by_cases e:s.getD i z66=t.getD i z66
    · refine ev_neg (by rw [decide_eq_true e];simp) ?_
      refine ev_cast (lsame_l0 s t hl hs d (i+1) (by omega)) ?_
      rw [decide_eq_true e,Bool.true_and]
    · refine ev_pos (by rw [decide_eq_false e];simp) ?_
      exact ev_some (by rw [decide_eq_false e,Bool.false_and])
theorem lsame_ev (s t:List S66) (hs:s.length≤9000000000000000000):Ev (fun k=>jalousieref01_Same.f k s t) (decide (s=t)):=by
  unfold jalousieref01_Same.f
  by_cases h:s.length=t.length
  · refine ev_pos (by omega) ?_
    exact ev_cast (lsame_l0 s t h hs s.length 0 (by omega)) (by simp)
  · refine ev_neg (by omega) ?_
    exact ev_some (by rw [decide_eq_false (fun e=>h (by rw [e]))])
theorem leq_l0 (s t:List S66) (hl:s.length=t.length) (hs:s.length≤9000000000000000000): ∀(d i:Nat),i+d=s.length→Ev (fun k=>api_Line_56.l0 k s t (s.length:Int) (i:Int)) (decide (s.drop i=t.drop i))
  | 0,i,h=>by
    refine ev_succ ?_
    simp only [api_Line_56.l0]
    (repeat(first|refine ev_pos (by omega) ?_|refine ev_neg (by omega) ?_))
    rw [List.drop_of_length_le (by omega),List.drop_of_length_le (by omega)]
    exact ev_some (by simp)
  | d+1,i,h=>by
    refine ev_succ ?_
    simp only [api_Line_56.l0,rdL]
    rw [w64s i (by omega),drop_cons s i (by omega) z66,drop_cons t i (by omega) z66,decide_cons,line_ne]
    refine ev_pos (by omega) ?_
    refine ev_pos (by omega) ?_
    refine ev_pos (by omega) ?_
    refine ev_pos (by omega) ?_
    by_cases e:s.getD i z66=t.getD i z66
    · refine ev_neg (by rw [decide_eq_true e];simp) ?_
      refine ev_cast (leq_l0 s t hl hs d (i+1) (by omega)) ?_
      rw [decide_eq_true e,Bool.true_and]
    · refine ev_pos (by rw [decide_eq_false e];simp) ?_
      exact ev_some (by rw [decide_eq_false e,Bool.false_and])
theorem leq_ev (s t:List S66) (hs:s.length≤9000000000000000000):Ev (fun k=>api_Line_56.f k s t) (decide (s=t)):=by
  unfold api_Line_56.f
  by_cases h:s.length=t.length
  · refine ev_pos (by omega) ?_
    exact ev_cast (leq_l0 s t h hs s.length 0 (by omega)) (by simp)
  · refine ev_neg (by omega) ?_
    exact ev_some (by rw [decide_eq_false (fun e=>h (by rw [e]))])
theorem edit_eq (a b:S47):decide (a=b)=(decide (a.f0=b.f0)&&decide (a.f1=b.f1)):=by
  by_cases h0:a.f0=b.f0
  · by_cases h1:a.f1=b.f1
    · have e:a=b:=by cases a;cases b;simp at h0 h1;simp [h0,h1]
      simp [e]
    · have e:a≠b:=fun e=>h1 (by rw [e])
      simp [e,h1]
  · have e:a≠b:=fun e=>h0 (by rw [e])
    simp [e,h0]
theorem hunk_eq (a b:S44):decide (a=b)=(decide (a.f0=b.f0)&&(decide (a.f1=b.f1)&&(decide (a.f2=b.f2)&&(decide (a.f3=b.f3)&&decide (a.f4=b.f4))))):=by
  by_cases e:a=b
  · simp [e]
  · rw [decide_eq_false e]
    symm
    rw [Bool.eq_false_iff]
    intro h
    simp only [Bool.and_eq_true,decide_eq_true_eq] at h
    obtain⟨h0,h1,h2,h3,h4⟩:=h
    exact e (by cases a;cases b;simp at h0 h1 h2 h3 h4;simp [h0,h1,h2,h3,h4])
theorem esame_l0 (s t:List S47) (hl:s.length=t.length) (hs:Fit s): ∀(d i:Nat),i+d=s.length→Ev (fun k=>jalousieref08_Same.l0 k s t (i:Int)) (decide (s.drop i=t.drop i))
  | 0,i,h=>by
    refine ev_succ ?_
    simp only [jalousieref08_Same.l0]
    (repeat(first|refine ev_pos (by omega) ?_|refine ev_neg (by omega) ?_))
    rw [List.drop_of_length_le (by omega),List.drop_of_length_le (by omega)]
    exact ev_some (by simp)
  | d+1,i,h=>by
    have h1:=hs.1
    have hx:=hs.2 _ (getD_mem (l:=s) (i:=i) (by omega) z47)
    refine ev_succ ?_
    simp only [jalousieref08_Same.l0,rdE]
    rw [w64s i (by omega),drop_cons s i (by omega) z47,drop_cons t i (by omega) z47,decide_cons,edit_eq]
    refine ev_pos (by omega) ?_
    refine ev_pos (by omega) ?_
    refine ev_pos (by omega) ?_
    by_cases e:(s.getD i z47).f0=(t.getD i z47).f0
    · refine ev_pos e ?_
      refine Ev.bind (lsame_ev _ _ (by omega)) ?_
      by_cases e1:(s.getD i z47).f1=(t.getD i z47).f1
      · refine ev_pos (decide_eq_true e1) ?_
        refine ev_cast (esame_l0 s t hl hs d (i+1) (by omega)) ?_
        rw [decide_eq_true e,decide_eq_true e1,Bool.true_and,Bool.true_and]
      · refine ev_neg (by rw [decide_eq_false e1];simp) ?_
        exact ev_some (by rw [decide_eq_false e1,Bool.and_false,Bool.false_and])
    · refine ev_neg e ?_
      exact ev_some (by rw [decide_eq_false e,Bool.false_and,Bool.false_and])
theorem esame_ev (s t:List S47) (hs:Fit s):Ev (fun k=>jalousieref08_Same.f k s t) (decide (s=t)):=by
  unfold jalousieref08_Same.f
  by_cases h:s.length=t.length
  · refine ev_pos (by omega) ?_
    exact ev_cast (esame_l0 s t h hs s.length 0 (by omega)) (by simp)
  · refine ev_neg (by omega) ?_
    exact ev_some (by rw [decide_eq_false (fun e=>h (by rw [e]))])
theorem fit_cons {x:S47} {s:List S47} (h:Fit (x::s)):Fit s:=⟨Nat.le_trans (Nat.le_succ _) h.1,fun y hy=>h.2 y (List.mem_cons_of_mem _ hy)⟩
theorem eeq_all: ∀(s t:List S47),Fit s→s.length=t.length→Ev (fun k=>hunk_same.all k s t) (decide (s=t))
  | [],[],_,_=>ev_some rfl
  | [],_::_,_,h=>by simp at h
  | _::_,[],_,h=>by simp at h
  | x::s,y::t,hs,h=>by
    have hx:=hs.2 x (by simp)
    rw [decide_cons,edit_eq]
    simp only [hunk_same.all]
    refine Ev.bind (a:=decide (x.f0=y.f0)&&decide (x.f1=y.f1)) ?_ ?_
    · unfold hunk_same.one
      by_cases e:x.f0=y.f0
      · refine ev_pos e (ev_cast (leq_ev _ _ (by omega)) ?_)
        rw [decide_eq_true e,Bool.true_and]
      · refine ev_neg e (ev_some ?_)
        rw [decide_eq_false e,Bool.false_and]
    · by_cases e:(decide (x.f0=y.f0)&&decide (x.f1=y.f1))=true
      · refine ev_pos e (ev_cast (eeq_all s t (fit_cons hs) (by simpa using h)) ?_)
        rw [e,Bool.true_and]
      · refine ev_neg e (ev_some ?_)
        rw [Bool.not_eq_true] at e
        rw [e,Bool.false_and]
theorem eeq_ev (s t:List S47) (hs:Fit s):Ev (fun k=>hunk_same.f k s t) (decide (s=t)):=by
  unfold hunk_same.f
  by_cases h:s.length=t.length
  · exact ev_pos h (eeq_all s t hs h)
  · refine ev_neg h (ev_some ?_)
    rw [decide_eq_false (fun e=>h (by rw [e]))]
def FitH (s:List S44):Prop:=s.length≤4398046511104∧ ∀x∈s,Fit x.f4
theorem hsame_l0 (s t:List S44) (hl:s.length=t.length) (hs:FitH s): ∀(d i:Nat),i+d=s.length→Ev (fun k=>jalousieref09_Same.l0 k s t (i:Int)) (decide (s.drop i=t.drop i))
  | 0,i,h=>by
    refine ev_succ ?_
    simp only [jalousieref09_Same.l0]
    (repeat(first|refine ev_pos (by omega) ?_|refine ev_neg (by omega) ?_))
    rw [List.drop_of_length_le (by omega),List.drop_of_length_le (by omega)]
    exact ev_some (by simp)
  | d+1,i,h=>by
    have h1:=hs.1
    have hx:=hs.2 _ (getD_mem (l:=s) (i:=i) (by omega) z44)
    refine ev_succ ?_
    simp only [jalousieref09_Same.l0,rdH]
    rw [w64s i (by omega),drop_cons s i (by omega) z44,drop_cons t i (by omega) z44,decide_cons,hunk_eq]
    refine ev_pos (by omega) ?_
    refine ev_pos (by omega) ?_
    refine ev_pos (by omega) ?_
    generalize s.getD i z44=x at hx ⊢
    generalize t.getD i z44=y
    by_cases e0:x.f0=y.f0
    · refine ev_pos e0 ?_
      by_cases e1:x.f1=y.f1
      · refine ev_pos e1 ?_
        by_cases e2:x.f2=y.f2
        · refine ev_pos e2 ?_
          by_cases e3:x.f3=y.f3
          · refine ev_pos e3 ?_
            refine Ev.bind (esame_ev _ _ hx) ?_
            by_cases e4:x.f4=y.f4
            · refine ev_pos (decide_eq_true e4) ?_
              refine ev_cast (hsame_l0 s t hl hs d (i+1) (by omega)) ?_
              rw [decide_eq_true e0,decide_eq_true e1,decide_eq_true e2,decide_eq_true e3,decide_eq_true e4]
              simp
            · refine ev_neg (by rw [decide_eq_false e4];simp) ?_
              exact ev_some (by rw [decide_eq_false e4];simp)
          · exact ev_neg e3 (ev_some (by rw [decide_eq_false e3];simp))
        · exact ev_neg e2 (ev_some (by rw [decide_eq_false e2];simp))
      · exact ev_neg e1 (ev_some (by rw [decide_eq_false e1];simp))
    · exact ev_neg e0 (ev_some (by rw [decide_eq_false e0];simp))
theorem hsame_ev (s t:List S44) (hs:FitH s):Ev (fun k=>jalousieref09_Same.f k s t) (decide (s=t)):=by
  unfold jalousieref09_Same.f
  by_cases h:s.length=t.length
  · refine ev_pos (by omega) ?_
    exact ev_cast (hsame_l0 s t h hs s.length 0 (by omega)) (by simp)
  · refine ev_neg (by omega) ?_
    exact ev_some (by rw [decide_eq_false (fun e=>h (by rw [e]))])
def one (x:S47):List S47:=x.f1.map fun l=>⟨x.f0,[l]⟩
def single (s:List S47):List S47:=s.flatMap one
theorem single_cons (x:S47) (s:List S47):single (x::s)=one x++single s:=by simp [single]
theorem single_append (s t:List S47):single (s++t)=single s++single t:=by simp [single]
theorem single_len (s:List S47):(single s).length=nl s:=by
  induction s with
  | nil=>rfl
  | cons x t ih=>
    rw [single_cons,nl_cons,List.length_append,ih]
    simp [one]
theorem line_eta (x:S66):(⟨x.f0,x.f1⟩:S66)=x:=rfl
theorem single_l (s:List S47) (hn:nl s≤1000000000000) (hs:s.length≤4398046511104): ∀(d i:Nat) (a:List S47),i+d=s.length→a.length+nl (s.drop i)≤1000000000000→Ev (fun k=>jalousieref09_Single.l0 k s a (i:Int)) (a++single (s.drop i))
  | 0,i,a,h,ha=>by
    refine ev_succ ?_
    simp only [jalousieref09_Single.l0]
    (repeat(first|refine ev_pos (by omega) ?_|refine ev_neg (by omega) ?_))
    rw [List.drop_of_length_le (by omega)]
    exact ev_some (by simp [single])
  | d+1,i,a,h,ha=>by
    rw [drop_cons s i (by omega) z47] at ha ⊢
    rw [nl_cons] at ha
    refine ev_succ ?_
    simp only [jalousieref09_Single.l0]
    refine ev_pos (by omega) ?_
    have inner: ∀(e j:Nat) (b:List S47),j+e=(s.getD i z47).f1.length→b.length+e+nl (s.drop (i+1))≤1000000000000→Ev (fun k=>jalousieref09_Single.l1 k s b (i:Int) (j:Int)) (b++(((s.getD i z47).f1.drop j).map fun l=>(⟨(s.getD i z47).f0,[l]⟩:S47))++single (s.drop (i+1))):=by
      intro e
      induction e with
      | zero=>
        intro j b hj hb
        refine ev_succ ?_
        simp only [jalousieref09_Single.l1,rdE]
        (repeat(first|refine ev_pos (by omega) ?_|refine ev_neg (by omega) ?_))
        rw [w64s i (by omega),List.drop_of_length_le (l:=(s.getD i z47).f1) (by omega)]
        refine ev_cast (single_l s hn hs d (i+1) b (by omega) (by omega)) (by simp)
      | succ e ih=>
        intro j b hj hb
        refine ev_succ ?_
        simp only [jalousieref09_Single.l1,rdE,rdL]
        (repeat(first|refine ev_pos (by omega) ?_|refine ev_neg (by omega) ?_))
        rw [w64s j (by omega),drop_cons (s.getD i z47).f1 j (by omega) z66]
        refine ev_cast (ih (j+1) _ (by omega) (by rw [List.length_append];simp;omega)) (by simp)
    refine ev_cast (inner (s.getD i z47).f1.length 0 a (by omega) (by omega)) ?_
    rw [List.drop_zero,single_cons,List.append_assoc]
    rfl
theorem single_ev (s:List S47) (hn:nl s≤1000000000000) (hs:s.length≤4398046511104):Ev (fun k=>jalousieref09_Single.f k s) (single s):=by
  unfold jalousieref09_Single.f
  exact ev_cast (single_l s hn hs s.length 0 [] (by omega) (by simpa using hn)) (by simp)
def joins (l:List S44):List S47:=l.flatMap (·.f4)
theorem joins_cons (h:S44) (t:List S44):joins (h::t)=h.f4++joins t:=by simp [joins]
theorem join_l (l:List S44) (hl:l.length≤4398046511104) (hf: ∀h∈l, ∀x∈h.f4,x.f1.length<5864062014805): ∀(d i:Nat) (a:List S47),i+d=l.length→a.length+(joins (l.drop i)).length≤4398046511104→Ev (fun k=>hunk_Join.l0 k a l (l.length:Int) (i:Int)) (a++joins (l.drop i))
  | 0,i,a,h,ha=>by
    refine ev_succ ?_
    simp only [hunk_Join.l0]
    (repeat(first|refine ev_pos (by omega) ?_|refine ev_neg (by omega) ?_))
    rw [List.drop_of_length_le (by omega)]
    exact ev_some (by simp [joins])
  | d+1,i,a,h,ha=>by
    rw [drop_cons l i (by omega) z44] at ha ⊢
    rw [joins_cons,List.length_append] at ha
    have hfx:=hf _ (getD_mem (l:=l) (i:=i) (by omega) z44)
    refine ev_succ ?_
    simp only [hunk_Join.l0,rdH]
    (repeat(first|refine ev_pos (by omega) ?_|refine ev_neg (by omega) ?_))
    rw [joins_cons]
    generalize l.getD i z44=x at ha hfx ⊢
    have inner: ∀(e j:Nat) (b:List S47),j+e=x.f4.length→b.length+e+(joins (l.drop (i+1))).length≤4398046511104→Ev (fun k=>hunk_Join.l1 k b l (l.length:Int) (i:Int) x.f4 (x.f4.length:Int) (j:Int)) (b++(x.f4.drop j)++joins (l.drop (i+1))):=by
      intro e
      induction e with
      | zero=>
        intro j b hj hb
        refine ev_succ ?_
        simp only [hunk_Join.l1]
        (repeat(first|refine ev_pos (by omega) ?_|refine ev_neg (by omega) ?_))
        rw [w64s i (by omega),List.drop_of_length_le (l:=x.f4) (by omega)]
        refine ev_cast (join_l l hl hf d (i+1) b (by omega) (by omega)) (by simp)
      | succ e ih=>
        intro j b hj hb
        have hc:=hfx _ (getD_mem (l:=x.f4) (i:=j) (by omega) z47)
        refine ev_succ ?_
        simp only [hunk_Join.l1,rdE]
        (repeat(first|refine ev_pos (by omega) ?_|refine ev_neg (by omega) ?_))
        rw [w64s j (by omega),drop_cons x.f4 j (by omega) z47]
        refine ev_bind (a:=(x.f4.getD j z47).f1) (by unfold api_Line_52.f;rw [if_pos hc]) ?_
        (repeat(first|refine ev_pos (by omega) ?_|refine ev_neg (by omega) ?_))
        refine ev_cast (ih (j+1) _ (by omega) (by rw [List.length_append];simp;omega)) (by simp)
    refine ev_cast (inner x.f4.length 0 a (by omega) (by omega)) ?_
    rw [List.drop_zero,List.append_assoc]
theorem join_ev (l:List S44) (hl:l.length≤4398046511104) (hf: ∀h∈l, ∀x∈h.f4,x.f1.length<5864062014805) (hj:(joins l).length≤4398046511104):Ev (fun k=>hunk_Join.f k l) (joins l):=by
  unfold hunk_Join.f
  exact ev_cast (join_l l hl hf l.length 0 [] (by omega) (by simpa using hj)) (by simp)
end Go.Proofs.Ytfnbodjmmkjlcaa.H
namespace Go.Proofs.Ytfnbodjmmkjlcaa.H
open Go.RowKit Go.Proofs.YtfnbodjmmkjlcaaW.PrintWords Go.Proofs.YtfnbodjmmkjlcaaW.PrintLast Go.Proofs.YtfnbodjmmkjlcaaW.PrintMore
set_option linter.unusedVariables false
set_option linter.unusedSimpArgs false
theorem last_rd (t:List S47) (y:S47):rd_T47 (t++ [y]) (((t++ [y]).length:Int)-1)=y:=by
  have e:(((t++ [y]).length:Int)-1)=(t.length:Int):=by simp
  rw [e,rdE,List.getD_eq_getElem?_getD]
  simp
theorem add_nil (s:List S47) (d:Int):script_normal.add s d []=s:=by simp [script_normal.add]
theorem add_empty (d:Int) (l:List S66) (hl:l≠ []):script_normal.add [] d l= [⟨d,l⟩]:=by
  unfold script_normal.add
  rw [if_neg (by simpa using hl),if_neg (by simp),List.nil_append]
theorem add_ne (t:List S47) (y:S47) (d:Int) (l:List S66) (hl:l≠ []) (h:y.f0≠d):script_normal.add (t++ [y]) d l=t++ [y]++ [⟨d,l⟩]:=by
  unfold script_normal.add
  rw [if_neg (by simpa using hl),last_rd,if_neg (by simp [h])]
theorem add_eq (t:List S47) (y:S47) (d:Int) (l:List S66) (hl:l≠ []) (h:y.f0=d):script_normal.add (t++ [y]) d l=t++ [⟨d,y.f1++l⟩]:=by
  unfold script_normal.add
  rw [if_neg (by simpa using hl),last_rd,if_pos ⟨by simp,h⟩]
  have e:(t++ [y]).length-1=t.length:=by simp
  rw [e,List.set_append_right _ _ (Nat.le_refl _),Nat.sub_self]
  rfl
theorem snoc_cases {α:Type} (s:List α):s= []∨ ∃t y,s=t++ [y]:=by
  rcases List.eq_nil_or_concat s with h|⟨t,y,h⟩
  · exact .inl h
  · exact .inr ⟨t,y,by simpa using h⟩
theorem add_add (s:List S47) (d:Int) (a b:List S66):script_normal.add (script_normal.add s d a) d b=script_normal.add s d (a++b):=by
  by_cases ha:a= []
  · subst ha
    rw [add_nil,List.nil_append]
  by_cases hb:b= []
  · subst hb
    rw [add_nil,List.append_nil]
  have hab:a++b≠ []:=by simp [ha]
  rcases snoc_cases s with rfl|⟨t,y,rfl⟩
  · rw [add_empty d a ha,add_empty d _ hab]
    exact add_eq [] ⟨d,a⟩ d b hb rfl
  · by_cases h:y.f0=d
    · rw [add_eq t y d a ha h,add_eq t _ d b hb rfl,add_eq t y d _ hab h,List.append_assoc]
    · rw [add_ne t y d a ha h,add_ne t y d _ hab h,add_eq (t++ [y]) ⟨d,a⟩ d b hb rfl]
theorem side_add (s:List S47) (d:Int) (l:List S66) (b:Int):side (script_normal.add s d l) b=side s b++(if d=b then [] else l):=by
  by_cases hl:l= []
  · subst hl
    rw [add_nil]
    simp
  rcases snoc_cases s with rfl|⟨t,y,rfl⟩
  · rw [add_empty d l hl]
    simp [side]
  · by_cases h:y.f0=d
    · rw [add_eq t y d l hl h,side_append,side_append,side_cons,side_cons]
      by_cases hb:d=b
      · simp [side,hb,h]
      · simp [side,hb,h]
    · rw [add_ne t y d l hl h,side_append _ [_],side_cons]
      simp [side]
theorem nl_add (s:List S47) (d:Int) (l:List S66):nl (script_normal.add s d l)=nl s+l.length:=by
  by_cases hl:l= []
  · subst hl
    rw [add_nil]
    simp
  rcases snoc_cases s with rfl|⟨t,y,rfl⟩
  · rw [add_empty d l hl]
    simp [nl]
  · by_cases h:y.f0=d
    · rw [add_eq t y d l hl h,nl_append,nl_append,nl_cons,nl_cons]
      simp [nl]
      omega
    · rw [add_ne t y d l hl h,nl_append _ [_],nl_cons]
      simp [nl]
def adj (a b:Int):Prop:=(a=1∧(b=2∨b=3))∨(a=2∧(b=1∨b=3))∨(a=3∧b=1)
def good (x:S47):Prop:=(x.f0=1∨x.f0=2∨x.f0=3)∧x.f1≠ []
def Nf:List S47→Prop
  | []=>True
  | x::t=>good x∧(∀y∈t.head?,adj x.f0 y.f0)∧Nf t
theorem nf_append (s t:List S47):Nf (s++t)↔Nf s∧Nf t∧ ∀x∈s.getLast?, ∀y∈t.head?,adj x.f0 y.f0:=by
  induction s with
  | nil=>simp [Nf]
  | cons a s ih=>
    rw [List.cons_append,Nf,ih,Nf]
    cases s with
    | nil=>
      simp [Nf]
      intro _
      exact and_comm
    | cons b s=>
      rw [List.getLast?_cons_cons]
      simp only [List.cons_append,List.head?_cons]
      constructor
      · rintro ⟨h1,h2,h3,h4,h5⟩
        exact⟨⟨h1,h2,h3⟩,h4,h5⟩
      · rintro ⟨⟨h1,h2,h3⟩,h4,h5⟩
        exact⟨h1,h2,h3,h4,h5⟩
theorem nf_snoc (t:List S47) (y:S47):Nf (t++ [y])↔Nf t∧good y∧ ∀x∈t.getLast?,adj x.f0 y.f0:=by
  rw [nf_append]
  simp [Nf]
theorem nf_add (s:List S47) (d:Int) (l:List S66) (hd:d=1∨d=2∨d=3) (hs:Nf s) (ha: ∀x∈s.getLast?,x.f0=d∨adj x.f0 d):Nf (script_normal.add s d l):=by
  by_cases hl:l= []
  · subst hl
    rw [add_nil]
    exact hs
  rcases snoc_cases s with rfl|⟨t,y,rfl⟩
  · rw [add_empty d l hl]
    simp [Nf,good,hl,hd]
  · have hy:=ha y (by simp)
    by_cases h:y.f0=d
    · rw [add_eq t y d l hl h]
      rw [nf_snoc] at hs ⊢
      exact⟨hs.1,⟨hd,by simp [hl]⟩,fun x hx=>by have:=hs.2.2 x hx;rw [h] at this;exact this⟩
    · rw [add_ne t y d l hl h,nf_snoc]
      exact⟨hs,⟨hd,hl⟩,fun x hx=>by
        simp at hx
        subst hx
        exact hy.resolve_left h⟩
theorem last_add (s:List S47) (d:Int) (l:List S66): ∀x∈(script_normal.add s d l).getLast?,(l≠ []∧x.f0=d)∨(l= []∧x∈s.getLast?):=by
  intro x hx
  by_cases hl:l= []
  · subst hl
    rw [add_nil] at hx
    exact .inr ⟨rfl,hx⟩
  refine .inl ⟨hl,?_⟩
  rcases snoc_cases s with rfl|⟨t,y,rfl⟩
  · rw [add_empty d l hl] at hx
    simp at hx
    rw [← hx]
  · by_cases h:y.f0=d
    · rw [add_eq t y d l hl h] at hx
      simp at hx
      rw [← hx]
    · rw [add_ne t y d l hl h] at hx
      simp at hx
      rw [← hx]
theorem take_in {s:List S47} {w:List S66} {x:S47} (h:x.f0=3):script_normal.take (s,w) x=(s,w++x.f1):=by
  unfold script_normal.take
  rw [if_pos h]
theorem take_out {s:List S47} {w:List S66} {x:S47} (h:x.f0=2):script_normal.take (s,w) x=(script_normal.add s 2 x.f1,w):=by
  unfold script_normal.take
  rw [if_neg (by omega),if_neg (by omega),h]
theorem take_keep {s:List S47} {w:List S66} {x:S47} (h:x.f0=1) (hx:x.f1≠ []):script_normal.take (s,w) x=(script_normal.add (script_normal.add s 3 w) 1 x.f1,[]):=by
  unfold script_normal.take
  rw [if_neg (by omega),if_pos ⟨h,List.length_pos_iff.2 hx⟩,h]
theorem take_none {s:List S47} {w:List S66} {x:S47} (hx:x.f1= []):script_normal.take (s,w) x=(s,w):=by
  unfold script_normal.take
  split
  · rw [hx,List.append_nil]
  · rw [if_neg (by simp [hx]),hx,add_nil]
theorem take_one (q:List S47×List S66) (x:S47):(one x).foldl script_normal.take q=script_normal.take q x:=by
  obtain⟨s,w⟩:=q
  obtain⟨d,l⟩:=x
  unfold one
  simp only
  rcases snoc_cases l with rfl|⟨t,y,rfl⟩
  · rw [take_none rfl]
    rfl
  by_cases h3:d=3
  · subst h3
    have go: ∀(l:List S66) (w:List S66),(l.map fun l=>(⟨3,[l]⟩:S47)).foldl script_normal.take (s,w)=(s,w++l):=by
      intro l
      induction l with
      | nil=>intro w;simp
      | cons a l ih=>
        intro w
        rw [List.map_cons,List.foldl_cons,take_in rfl,ih]
        simp
    rw [go,take_in rfl]
  · by_cases h1:d=1
    · subst h1
      have go: ∀(l:List S66) (s:List S47),(l.map fun l=>(⟨1,[l]⟩:S47)).foldl script_normal.take (s,[])=(script_normal.add s 1 l,[]):=by
        intro l
        induction l with
        | nil=>intro s;simp [add_nil]
        | cons a l ih=>
          intro s
          rw [List.map_cons,List.foldl_cons,take_keep rfl (by simp),add_nil,ih,add_add]
          rfl
      rw [take_keep rfl (by simp)]
      generalize hk:t++ [y]=k
      have hk0:k≠ []:=by rw [← hk];simp
      cases k with
      | nil=>exact absurd rfl hk0
      | cons a k=>
        rw [List.map_cons,List.foldl_cons,take_keep rfl (by simp),go,add_add]
        rfl
    · have go: ∀(l:List S66) (s:List S47),(l.map fun l=>(⟨d,[l]⟩:S47)).foldl script_normal.take (s,w)=(script_normal.add s d l,w):=by
        intro l
        induction l with
        | nil=>intro s;simp [add_nil]
        | cons a l ih=>
          intro s
          have e:script_normal.take (s,w) (⟨d,[a]⟩:S47)=(script_normal.add s d [a],w):=by
            unfold script_normal.take
            rw [if_neg h3,if_neg (by simp [h1])]
          rw [List.map_cons,List.foldl_cons,e,ih,add_add]
          rfl
      rw [go]
      unfold script_normal.take
      rw [if_neg h3,if_neg (by simp [h1])]
theorem fold_single (l:List S47): ∀q,(single l).foldl script_normal.take q=l.foldl script_normal.take q:=by
  induction l with
  | nil=>intro q;rfl
  | cons x t ih=>
    intro q
    rw [single_cons,List.foldl_append,take_one,ih,List.foldl_cons]
theorem p_single (l:List S47):script_normal.p (single l)=script_normal.p l:=by
  unfold script_normal.p script_normal.all
  rw [fold_single]
theorem fold_nf (l:List S47) (hl:allok l=true): ∀(s:List S47) (w:List S66),Nf s→(∀x∈s.getLast?,x.f0≠3)→Nf (l.foldl script_normal.take (s,w)).1∧ ∀x∈(l.foldl script_normal.take (s,w)).1.getLast?,x.f0≠3:=by
  induction l with
  | nil=>exact fun s w h1 h2=>⟨h1,h2⟩
  | cons x t ih=>
    intro s w h1 h2
    rw [allok_cons,Bool.and_eq_true] at hl
    have hx:=of_decide_eq_true hl.1
    have h12: ∀y∈s.getLast?,y.f0=1∨y.f0=2:=by
      intro y hy
      have h3:=h2 y hy
      have hg:good y:=by
        rcases snoc_cases s with rfl|⟨u,v,rfl⟩
        · simp at hy
        · simp at hy
          subst hy
          exact((nf_snoc u v).1 h1).2.1
      rcases hg.1 with h|h|h
      · exact .inl h
      · exact .inr h
      · exact absurd h h3
    rw [List.foldl_cons]
    by_cases hx0:x.f1= []
    · rw [take_none hx0]
      exact ih hl.2 s w h1 h2
    by_cases a3:x.f0=3
    · rw [take_in a3]
      exact ih hl.2 s _ h1 h2
    by_cases a2:x.f0=2
    · rw [take_out a2]
      refine ih hl.2 _ w (nf_add s 2 _ (by omega) h1 fun y hy=>?_) fun y hy=>?_
      · rcases h12 y hy with h|h
        · exact .inr (.inl ⟨h,by omega⟩)
        · exact .inl h
      · rcases last_add _ _ _ y hy with h|h
        · omega
        · exact absurd h.1 hx0
    · have a1:x.f0=1:=by omega
      rw [take_keep a1 hx0]
      have hf:Nf (script_normal.add s 3 w):=nf_add s 3 w (by omega) h1 fun y hy=> .inr (by
        rcases h12 y hy with h|h
        · exact .inl ⟨h,by omega⟩
        · exact .inr (.inl ⟨h,by omega⟩))
      refine ih hl.2 _ [] (nf_add _ 1 _ (by omega) hf fun y hy=>?_) fun y hy=>?_
      · rcases last_add _ _ _ y hy with h|h
        · exact .inr (.inr (.inr ⟨h.2,rfl⟩))
        · rcases h12 y h.2 with h|h
          · exact .inl h
          · exact .inr (.inr (.inl ⟨h,by omega⟩))
      · rcases last_add _ _ _ y hy with h|h
        · omega
        · exact absurd h.1 hx0
theorem p_nf (l:List S47) (hl:allok l=true):Nf (script_normal.p l):=by
  unfold script_normal.p script_normal.all
  obtain⟨h1,h2⟩:=fold_nf l hl [] [] trivial (by simp)
  refine nf_add _ 3 _ (by omega) h1 fun y hy=> .inr ?_
  have h3:=h2 y hy
  have hg:good y:=by
    generalize (l.foldl script_normal.take ([],[])).1=s at hy h1
    rcases snoc_cases s with rfl|⟨u,v,rfl⟩
    · simp at hy
    · simp at hy
      subst hy
      exact((nf_snoc u v).1 h1).2.1
  rcases hg.1 with h|h|h
  · exact .inl ⟨h,by omega⟩
  · exact .inr (.inl ⟨h,by omega⟩)
  · exact absurd h h3
def wl (w:List S66):List S47:=if w= [] then [] else [⟨3,w⟩]
theorem add_wl (s r:List S47) (w:List S66) (h:Nf (s++wl w++r)):script_normal.add s 3 w=s++wl w:=by
  unfold wl at h ⊢
  by_cases hw:w= []
  · subst hw
    rw [if_pos rfl,add_nil,List.append_nil]
  · rw [if_neg hw] at h ⊢
    rcases snoc_cases s with rfl|⟨t,y,rfl⟩
    · rw [add_empty 3 w hw]
      rfl
    · have h1:=((nf_append _ _).1 h).1
      have h2:=((nf_append _ _).1 h1).2.2 y (by simp) ⟨3,w⟩ (by simp)
      rw [add_ne t y 3 w hw (by simp [adj] at h2;omega)]
theorem add_app (s r:List S47) (x:S47) (h:Nf (s++x::r)):script_normal.add s x.f0 x.f1=s++ [x]:=by
  have hx:good x:=((nf_append _ _).1 h).2.1.1
  rcases snoc_cases s with rfl|⟨t,y,rfl⟩
  · rw [add_empty _ _ hx.2]
    rfl
  · have h2:=((nf_append _ _).1 h).2.2 y (by simp) x (by simp)
    rw [add_ne t y _ _ hx.2 (by simp [adj] at h2;omega)]
theorem fold_id (l:List S47): ∀(s:List S47) (w:List S66),Nf (s++wl w++l)→script_normal.add (l.foldl script_normal.take (s,w)).1 3 (l.foldl script_normal.take (s,w)).2=s++wl w++l:=by
  induction l with
  | nil=>
    intro s w h
    rw [List.append_nil]
    exact add_wl s [] w h
  | cons x t ih=>
    intro s w h
    have hx:good x:=((nf_append _ _).1 h).2.1.1
    have hlast:w≠ []→x.f0=1:=by
      intro hw
      unfold wl at h
      rw [if_neg hw] at h
      have h2:=((nf_append _ _).1 h).2.2 ⟨3,w⟩ (by simp) x (by simp)
      simp [adj] at h2
      exact h2
    rw [List.foldl_cons]
    rcases hx.1 with a|a|a
    · rw [take_keep a hx.2,add_wl s _ w h]
      have e:=add_app (s++wl w) t x h
      rw [a] at e
      rw [e]
      have h':Nf (s++wl w++ [x]++wl []++t):=by simpa [wl] using h
      rw [ih _ [] h']
      simp [wl]
    · have hw:w= []:=Classical.byContradiction fun hw=>by have:=hlast hw;omega
      subst hw
      rw [take_out a]
      have h0:Nf (s++x::t):=by simpa [wl] using h
      have e:=add_app s t x h0
      rw [a] at e
      rw [e]
      have h':Nf (s++ [x]++wl []++t):=by simpa [wl] using h
      rw [ih _ [] h']
      simp [wl]
    · have hw:w= []:=Classical.byContradiction fun hw=>by have:=hlast hw;omega
      subst hw
      rw [take_in a,List.nil_append]
      have ex:wl x.f1= [x]:=by
        unfold wl
        rw [if_neg hx.2, ← a]
      have h':Nf (s++wl x.f1++t):=by
        rw [ex]
        simpa [wl] using h
      rw [ih _ _ h',ex]
      simp [wl]
theorem p_id (n:List S47) (h:Nf n):script_normal.p n=n:=by
  have:=fold_id n [] [] (by simpa [wl] using h)
  unfold script_normal.p script_normal.all
  simpa [wl] using this
theorem nf_allok: ∀(n:List S47),Nf n→allok n=true
  | [],_=>rfl
  | x::t,h=>by
    rw [allok_cons,nf_allok t h.2.2,decide_eq_true (by have:=h.1.1;omega)]
    rfl
theorem fold_sides (l:List S47): ∀(s:List S47) (w:List S66),side (l.foldl script_normal.take (s,w)).1 3=side s 3++side l 3∧side (l.foldl script_normal.take (s,w)).1 2++(l.foldl script_normal.take (s,w)).2=side s 2++w++side l 2∨allok l=false:=by
  induction l with
  | nil=>intro s w;simp [side]
  | cons x t ih=>
    intro s w
    by_cases hx:1≤x.f0∧x.f0≤3
    · rw [List.foldl_cons,side_cons,side_cons,allok_cons,decide_eq_true hx,Bool.true_and]
      by_cases hx0:x.f1= []
      · rw [take_none hx0,hx0]
        rcases ih s w with h|h
        · left
          rw [h.1,h.2]
          simp
        · exact .inr h
      by_cases a3:x.f0=3
      · rw [take_in a3]
        rcases ih s (w++x.f1) with h|h
        · left
          rw [h.1,h.2,a3]
          simp
        · exact .inr h
      by_cases a2:x.f0=2
      · rw [take_out a2]
        rcases ih (script_normal.add s 2 x.f1) w with h|h
        · left
          rw [h.1,h.2,a2,side_add,side_add]
          simp
        · exact .inr h
      · have a1:x.f0=1:=by omega
        rw [take_keep a1 hx0]
        rcases ih (script_normal.add (script_normal.add s 3 w) 1 x.f1) [] with h|h
        · left
          rw [h.1,h.2,a1,side_add,side_add,side_add,side_add]
          simp
        · exact .inr h
    · right
      rw [allok_cons,decide_eq_false hx,Bool.false_and]
theorem p_side3 (l:List S47) (hl:allok l=true):side (script_normal.p l) 3=side l 3:=by
  unfold script_normal.p script_normal.all
  rcases fold_sides l [] [] with h|h
  · rw [side_add,h.1]
    simp [side]
  · rw [hl] at h
    cases h
theorem p_side2 (l:List S47) (hl:allok l=true):side (script_normal.p l) 2=side l 2:=by
  unfold script_normal.p script_normal.all
  rcases fold_sides l [] [] with h|h
  · rw [side_add,if_neg (by omega),h.2]
    simp [side]
  · rw [hl] at h
    cases h
theorem fold_nl (l:List S47): ∀(s:List S47) (w:List S66),nl (l.foldl script_normal.take (s,w)).1+(l.foldl script_normal.take (s,w)).2.length=nl s+w.length+nl l:=by
  induction l with
  | nil=>intro s w;simp [nl]
  | cons x t ih=>
    intro s w
    rw [List.foldl_cons,nl_cons]
    by_cases hx0:x.f1= []
    · rw [take_none hx0,hx0,ih]
      simp
    by_cases a3:x.f0=3
    · rw [take_in a3,ih]
      simp
      omega
    by_cases a1:x.f0=1
    · rw [take_keep a1 hx0,ih,nl_add,nl_add]
      simp
      omega
    · have e:script_normal.take (s,w) x=(script_normal.add s x.f0 x.f1,w):=by
        unfold script_normal.take
        rw [if_neg a3,if_neg (by simp [a1])]
      rw [e,ih,nl_add]
      omega
theorem p_nl (l:List S47):nl (script_normal.p l)=nl l:=by
  unfold script_normal.p script_normal.all
  have:=fold_nl l [] []
  rw [nl_add,this]
  simp [nl]
theorem nf_len: ∀(n:List S47),Nf n→n.length≤nl n
  | [],_=>Nat.le_refl _
  | x::t,h=>by
    have:=nf_len t h.2.2
    have:=List.length_pos_iff.2 h.1.2
    rw [nl_cons,List.length_cons]
    omega
theorem lay_add (s:List S47) (d:Int) (l:List S66) (h: ∀x∈s.getLast?,x.f0≠d):script_normal.add s d l=jalousieref08_lay.p s d l:=by
  unfold jalousieref08_lay.p
  by_cases hl:l= []
  · subst hl
    rw [add_nil]
    rfl
  rw [if_neg (by simpa using hl)]
  rcases snoc_cases s with rfl|⟨t,y,rfl⟩
  · rw [add_empty d l hl]
    rfl
  · rw [add_ne t y d l hl (h y (by simp))]
theorem lay_nil (s:List S47) (d:Int):jalousieref08_lay.p s d []=s:=rfl
theorem lay_last (s:List S47) (d:Int) (l:List S66): ∀x∈(jalousieref08_lay.p s d l).getLast?,(l≠ []∧x.f0=d)∨(l= []∧x∈s.getLast?):=by
  intro x hx
  unfold jalousieref08_lay.p at hx
  by_cases hl:l= []
  · subst hl
    exact .inr ⟨rfl,hx⟩
  · rw [if_neg (by simpa using hl)] at hx
    simp at hx
    exact .inl ⟨hl,by rw [← hx]⟩
theorem lay_more (s:List S47) (d:Int) (l m:List S66) (hl:l≠ []):script_normal.add (jalousieref08_lay.p s d l) d m=jalousieref08_lay.p s d (l++m):=by
  unfold jalousieref08_lay.p
  by_cases hm:m= []
  · subst hm
    rw [add_nil,List.append_nil]
  rw [if_neg (by simpa using hl),if_neg (by simp [hl])]
  exact add_eq s ⟨d,l⟩ d m hm rfl
structure Rel (q:jalousieref08_Normal.Q) (s:List S47) (w:List S66):Prop where
  hs:s=jalousieref08_lay.p (jalousieref08_lay.p q.out 1 q.keep) 2 q.gone
  hw:w=q.made
  hk:q.out≠ []→q.keep≠ []
  ho: ∀x∈q.out.getLast?,x.f0=2∨x.f0=3
theorem rel_last {q:jalousieref08_Normal.Q} {s:List S47} {w:List S66} (h:Rel q s w): ∀x∈s.getLast?,(q.gone≠ []∧x.f0=2)∨(q.gone= []∧q.keep≠ []∧x.f0=1):=by
  intro x hx
  rw [h.hs] at hx
  rcases lay_last _ _ _ x hx with h1|⟨h1,h2⟩
  · exact .inl h1
  · rcases lay_last _ _ _ x h2 with h3|⟨h3,h4⟩
    · exact .inr ⟨h1,h3⟩
    · have:q.out≠ []:=by
        intro e
        rw [e] at h4
        simp at h4
      exact absurd h3 (h.hk this)
theorem rel_fin {q:jalousieref08_Normal.Q} {s:List S47} {w:List S66} (h:Rel q s w):script_normal.add s 3 w=jalousieref08_Normal.fin q:=by
  unfold jalousieref08_Normal.fin
  rw [lay_add s 3 w (fun x hx=>by rcases rel_last h x hx with h1|h1<;>omega),h.hs,h.hw]
theorem rel_step {q:jalousieref08_Normal.Q} {s:List S47} {w:List S66} (x:S47) (hx:1≤x.f0∧x.f0≤3) (h:Rel q s w):Rel (jalousieref08_Normal.add (jalousieref08_Normal.pre q x) x) (script_normal.take (s,w) x).1 (script_normal.take (s,w) x).2:=by
  by_cases hx0:x.f1= []
  · rw [take_none hx0]
    unfold jalousieref08_Normal.pre
    rw [if_neg (by simp [hx0])]
    unfold jalousieref08_Normal.add
    rw [hx0]
    simp only [List.append_nil]
    repeat' split
    all_goals exact⟨h.hs,h.hw,h.hk,h.ho⟩
  by_cases a3:x.f0=3
  · rw [take_in a3]
    unfold jalousieref08_Normal.pre
    rw [if_neg (by omega)]
    unfold jalousieref08_Normal.add
    rw [if_neg (by omega),if_neg (by omega),if_pos a3]
    exact⟨h.hs,by rw [h.hw],h.hk,h.ho⟩
  by_cases a2:x.f0=2
  · rw [take_out a2]
    unfold jalousieref08_Normal.pre
    rw [if_neg (by omega)]
    unfold jalousieref08_Normal.add
    rw [if_neg (by omega),if_pos a2]
    refine⟨?_,h.hw,h.hk,h.ho⟩
    show script_normal.add s 2 x.f1=_
    by_cases hg:q.gone= []
    · rw [lay_add s 2 _ (fun y hy=>by rcases rel_last h y hy with h1|h1;exact absurd hg h1.1;omega),h.hs,hg]
      rfl
    · rw [h.hs,lay_more _ _ _ _ hg]
  · have a1:x.f0=1:=by omega
    rw [take_keep a1 hx0]
    unfold jalousieref08_Normal.pre
    by_cases hgm:0<q.gone.length+q.made.length
    · rw [if_pos ⟨a1,List.length_pos_iff.2 hx0,hgm⟩]
      unfold jalousieref08_Normal.add
      rw [if_pos a1]
      have hlast: ∀y∈(jalousieref08_Normal.fin q).getLast?,y.f0=2∨y.f0=3:=by
        intro y hy
        unfold jalousieref08_Normal.fin at hy
        rcases lay_last _ _ _ y hy with h1|⟨h1,h2⟩
        · exact .inr h1.2
        · rcases lay_last _ _ _ y h2 with h3|⟨h3,h4⟩
          · exact .inl h3.2
          · rw [h1,h3] at hgm
            simp at hgm
      refine⟨?_,rfl,fun _=>by simpa using hx0,hlast⟩
      show script_normal.add (script_normal.add s 3 w) 1 x.f1=_
      rw [rel_fin h,lay_add _ 1 _ (fun y hy=>by rcases hlast y hy with h1|h1<;>omega)]
      rfl
    · rw [if_neg (by omega)]
      unfold jalousieref08_Normal.add
      rw [if_pos a1]
      have hg:q.gone= []:=List.eq_nil_of_length_eq_zero (by omega)
      have hm:q.made= []:=List.eq_nil_of_length_eq_zero (by omega)
      refine⟨?_,hm.symm,fun _=>by simp [hx0],h.ho⟩
      show script_normal.add (script_normal.add s 3 w) 1 x.f1=_
      rw [h.hw,hm,add_nil,h.hs,hg,lay_nil,lay_nil]
      show script_normal.add (jalousieref08_lay.p q.out 1 q.keep) 1 x.f1=jalousieref08_lay.p q.out 1 (q.keep++x.f1)
      by_cases hk:q.keep= []
      · have ho:q.out= []:=Classical.byContradiction fun e=>h.hk e hk
        rw [hk,ho,lay_nil,List.nil_append,lay_add [] 1 _ (by simp)]
      · exact lay_more _ _ _ _ hk
theorem rel_fold (l:List S47) (hl:allok l=true): ∀(q:jalousieref08_Normal.Q) (s:List S47) (w:List S66),Rel q s w→Rel (l.foldl (fun q x=>jalousieref08_Normal.add (jalousieref08_Normal.pre q x) x) q) (l.foldl script_normal.take (s,w)).1 (l.foldl script_normal.take (s,w)).2:=by
  induction l with
  | nil=>exact fun _ _ _ h=>h
  | cons x t ih=>
    intro q s w h
    rw [allok_cons,Bool.and_eq_true] at hl
    rw [List.foldl_cons,List.foldl_cons]
    exact ih hl.2 _ _ _ (rel_step x (of_decide_eq_true hl.1) h)
theorem fin_p (l:List S47) (hl:allok l=true):jalousieref08_Normal.fin (jalousieref08_Normal.all l)=script_normal.p l:=by
  unfold script_normal.p script_normal.all jalousieref08_Normal.all
  exact(rel_fin (rel_fold l hl ⟨[],[],[],[]⟩ [] [] ⟨rfl,rfl,fun h=>absurd rfl h,by simp⟩)).symm
def nrm (s:List S47):List S47×Int:=if chk s=0 then (script_normal.p s,0) else ([],chk s)
theorem nrm_ev (s:List S47) (hf:Fit s):Ev (fun k=>script_Normal.f k s) (nrm s):=by
  unfold script_Normal.f nrm
  refine Ev.bind (chk_ev s hf) ?_
  by_cases h:chk s=0
  · refine ev_pos h ?_
    rw [if_pos h]
    obtain⟨h1,h2,h3⟩:=chk_zero.1 h
    exact ev_bind (a:=script_normal.p s) (by unfold script_normal.f;rw [if_pos ⟨by omega,by rw [nl_lines];omega⟩]) (ev_some rfl)
  · refine ev_neg h ?_
    rw [if_neg h]
    exact ev_some rfl
theorem rnrm_ev (s:List S47) (hf:Fit s):Ev (fun k=>jalousieref08_Normal.f k s) (nrm s):=by
  unfold jalousieref08_Normal.f nrm
  refine Ev.bind (rchk_ev s hf) ?_
  by_cases h:chk s=0
  · refine ev_pos h ?_
    rw [if_pos h]
    obtain⟨h1,h2,h3⟩:=chk_zero.1 h
    refine ev_pos ⟨by omega,?_⟩ (ev_some ?_)
    · have:(s.map (fun e=>e.f1.length)).sum=nl s:=rfl
      omega
    · rw [fin_p s h3]
  · refine ev_neg h ?_
    rw [if_neg h]
    exact ev_some rfl
end Go.Proofs.Ytfnbodjmmkjlcaa.H
namespace Go.Proofs.Ytfnbodjmmkjlcaa.H
open Go.RowKit Go.Proofs.YtfnbodjmmkjlcaaW.PrintWords Go.Proofs.YtfnbodjmmkjlcaaW.PrintLast Go.Proofs.YtfnbodjmmkjlcaaW.PrintMore
set_option linter.unusedVariables false
set_option linter.unusedSimpArgs false
def mkH (a0 b0:Nat) (now:List S47):S44:=⟨a0,((side now 3).length:Int),b0,((side now 2).length:Int),now⟩
def ad3 (x:S47):Nat:=if x.f0=3 then 0 else x.f1.length
def ad2 (x:S47):Nat:=if x.f0=2 then 0 else x.f1.length
def bld (c:Nat):List S47→Nat→Nat→Option (Nat×Nat×List S47)→List S66→List S44
  | [],_,_,none,_=> []
  | [],_,_,some (a0,b0,now),_=> [mkH a0 b0 now]
  | x::xs,a,b,none,ah=>if x.f0=1 then bld c xs (a+ad3 x) (b+ad2 x) none x.f1 else bld c xs (a+ad3 x) (b+ad2 x) (some (a-min c ah.length,b-min c ah.length,hunk_Build.lead c ah++ [x])) []
  | x::xs,a,b,some (a0,b0,now),ah=>
    if x.f0=1 then (if xs.isEmpty=true∨2*c<x.f1.length then mkH a0 b0 (now++hunk_Build.trail c x.f1)::bld c xs (a+ad3 x) (b+ad2 x) none x.f1 else bld c xs (a+ad3 x) (b+ad2 x) (some (a0,b0,now++ [x])) ah)
    else bld c xs (a+ad3 x) (b+ad2 x) (some (a0,b0,now++ [x])) ah
def zer (l:List S44):List S44:=l.map fun h=>⟨0,h.f1,0,h.f3,h.f4⟩
theorem lead_nl (c:Nat) (ah:List S66):nl (hunk_Build.lead c ah)=min c ah.length:=by
  unfold hunk_Build.lead
  split
  · simp [nl]
    omega
  · simp [nl]
    omega
theorem lead_good (c:Nat) (ah:List S66): ∀x∈hunk_Build.lead c ah,good x:=by
  intro x hx
  unfold hunk_Build.lead at hx
  split at hx
  · simp at hx
    subst hx
    refine⟨.inl rfl,?_⟩
    intro e
    have:=congrArg List.length e
    simp at this
    omega
  · simp at hx
theorem trail_nl (c:Nat) (l:List S66):nl (hunk_Build.trail c l)=min c l.length:=by
  unfold hunk_Build.trail
  split
  · simp [nl]
  · rw [nl_nil]
    omega
theorem trail_good (c:Nat) (l:List S66): ∀x∈hunk_Build.trail c l,good x:=by
  intro x hx
  unfold hunk_Build.trail at hx
  split at hx
  · simp at hx
    subst hx
    refine⟨.inl rfl,?_⟩
    intro e
    have h2:(l.take c).length=0:=by
      have e':l.take c= []:=by simpa using e
      rw [e']
      rfl
    rw [List.length_take] at h2
    omega
  · simp at hx
theorem good_len: ∀(s:List S47),(∀x∈s,good x)→s.length≤nl s
  | [],_=>Nat.le_refl _
  | x::t,h=>by
    have:=good_len t fun y hy=>h y (List.mem_cons_of_mem _ hy)
    have:=List.length_pos_iff.2 (h x (by simp)).2
    rw [nl_cons,List.length_cons]
    omega
theorem good_allok: ∀(s:List S47),(∀x∈s,good x)→allok s=true
  | [],_=>rfl
  | x::t,h=>by
    rw [allok_cons,good_allok t fun y hy=>h y (List.mem_cons_of_mem _ hy),decide_eq_true (by have:=(h x (by simp)).1;omega)]
    rfl
theorem good_fit (s:List S47) (h:nl s≤1000000) (hg: ∀x∈s,good x):Fit s:=by
  have hl:=good_len s hg
  refine⟨by omega,fun x hx=>?_⟩
  have:x.f1.length≤nl s:=by
    clear h hg hl
    induction s with
    | nil=>cases hx
    | cons y t ih=>
      rw [nl_cons]
      rcases List.mem_cons.1 hx with rfl|hx
      · omega
      · have:=ih hx
        omega
  omega
theorem good_chk (s:List S47) (h:nl s≤800) (hg: ∀x∈s,good x):chk s=0:=chk_zero.2 ⟨Nat.le_trans (good_len s hg) h,h,good_allok s hg⟩
theorem nf_good: ∀(n:List S47),Nf n→ ∀x∈n,good x
  | [],_,x,hx=>by cases hx
  | y::t,h,x,hx=>by
    rcases List.mem_cons.1 hx with rfl|hx
    · exact h.1
    · exact nf_good t h.2.2 x hx
theorem hk_ev (now:List S47) (h:nl now≤800) (hg: ∀x∈now,good x):Ev (fun k=>hunk_Build.hk k now) ⟨0,((side now 3).length:Int),0,((side now 2).length:Int),now⟩:=by
  unfold hunk_Build.hk
  refine Ev.bind (sides_ev now (good_fit now (by omega) hg)) (ev_some ?_)
  unfold sds
  rw [if_pos (good_chk now h hg)]
def curSt (out:List S44) (cur:Option (Nat×Nat×List S47)) (ah:List S66):hunk_Build.St:=match cur with
  | none=>⟨out,[],ah⟩
  | some (_,_,now)=>⟨out,now,ah⟩
def curOk (cur:Option (Nat×Nat×List S47)) (ah:List S66) (n:List S47):Prop:=match cur with
  | none=>ah.length+nl n≤800
  | some (_,_,now)=>now≠ []∧nl now+nl n≤800∧ ∀x∈now,good x
theorem build_ev (c:Nat): ∀(n:List S47) (a b:Nat) (cur:Option (Nat×Nat×List S47)) (ah:List S66) (out:List S44),(∀x∈n,good x)→curOk cur ah n→Ev (fun k=>(hunk_Build.allp k c n (curSt out cur ah)).bind (hunk_Build.fin k)) (out++zer (bld c n a b cur ah))
  | [],a,b,none,ah,out,hg,hc=>by
    simp only [hunk_Build.allp,Option.bind_some]
    unfold hunk_Build.fin curSt
    refine ev_neg (by simp) (ev_some ?_)
    simp [bld,zer]
  | [],a,b,some (a0,b0,now),ah,out,hg,hc=>by
    obtain⟨h0,h1,h2⟩:=hc
    simp only [hunk_Build.allp,Option.bind_some]
    unfold hunk_Build.fin curSt
    refine ev_pos (List.length_pos_iff.2 h0) ?_
    refine Ev.bind (hk_ev now (by rw [nl_nil] at h1;omega) h2) (ev_some ?_)
    simp [bld,zer,mkH]
  | x::xs,a,b,none,ah,out,hg,hc=>by
    have hc':ah.length+nl (x::xs)≤800:=hc
    rw [nl_cons] at hc'
    have hgx:=hg x (by simp)
    have hgs: ∀y∈xs,good y:=fun y hy=>hg y (List.mem_cons_of_mem _ hy)
    simp only [hunk_Build.allp,Option.bind_assoc,bld]
    unfold hunk_Build.takep curSt
    by_cases h1:x.f0=1
    · simp only [if_pos h1]
      simp only [List.length_nil,if_true,Option.bind_some]
      exact build_ev c xs _ _ none x.f1 out hgs (by show _≤_;omega)
    · simp only [if_neg h1]
      simp only [List.length_nil,if_true,Option.bind_some,List.nil_append]
      refine build_ev c xs _ _ (some (a-min c ah.length,b-min c ah.length,hunk_Build.lead c ah++ [x])) [] out hgs ⟨by simp,?_,?_⟩
      · rw [nl_append,lead_nl,nl_cons,nl_nil]
        omega
      · intro y hy
        rcases List.mem_append.1 hy with hy|hy
        · exact lead_good c ah y hy
        · simp at hy
          subst hy
          exact hgx
  | x::xs,a,b,some (a0,b0,now),ah,out,hg,hc=>by
    obtain⟨h0,h1',h2⟩:=hc
    rw [nl_cons] at h1'
    have hgx:=hg x (by simp)
    have hgs: ∀y∈xs,good y:=fun y hy=>hg y (List.mem_cons_of_mem _ hy)
    have h0': ¬now.length=0:=fun e=>h0 (List.eq_nil_of_length_eq_zero e)
    have hgx': ∀y∈now++ [x],good y:=by
      intro y hy
      rcases List.mem_append.1 hy with hy|hy
      · exact h2 y hy
      · simp at hy
        subst hy
        exact hgx
    have hnx:nl (now++ [x])+nl xs≤800:=by
      rw [nl_append,nl_cons,nl_nil]
      omega
    simp only [hunk_Build.allp,Option.bind_assoc,bld]
    unfold hunk_Build.takep curSt
    simp only
    by_cases h1:x.f0=1
    · simp only [if_pos h1,if_neg h0']
      by_cases hl:xs.isEmpty=true∨2*c<x.f1.length
      · simp only [if_pos hl]
        simp only [Option.bind_assoc]
        have htg: ∀y∈now++hunk_Build.trail c x.f1,good y:=by
          intro y hy
          rcases List.mem_append.1 hy with hy|hy
          · exact h2 y hy
          · exact trail_good c _ y hy
        refine Ev.bind (hk_ev (now++hunk_Build.trail c x.f1) (by rw [nl_append,trail_nl];omega) htg) ?_
        simp only [Option.bind_some]
        refine ev_cast (build_ev c xs (a+ad3 x) (b+ad2 x) none x.f1 _ hgs (by show _≤_;omega)) ?_
        simp [zer,mkH]
      · simp only [if_neg hl]
        simp only [Option.bind_some]
        exact build_ev c xs _ _ (some (a0,b0,now++ [x])) ah out hgs ⟨by simp,hnx,hgx'⟩
    · simp only [if_neg h1,if_neg h0']
      simp only [Option.bind_some]
      exact build_ev c xs _ _ (some (a0,b0,now++ [x])) ah out hgs ⟨by simp,hnx,hgx'⟩
def hnk (c:Nat) (n:List S47):List S44:=bld c n 0 0 none []
def hres (s:List S47) (c:Int):List S44×Int:=if chk s=0 then (if c<0∨20<c then ([],2) else (hnk c.toNat (script_normal.p s),0)) else ([],chk s)
theorem bld_len (c:Nat): ∀(n:List S47) (a b:Nat) (cur:Option (Nat×Nat×List S47)) (ah:List S66),(bld c n a b cur ah).length≤n.length+(if cur.isSome=true then 1 else 0)
  | [],a,b,none,ah=>by simp [bld]
  | [],a,b,some (a0,b0,now),ah=>by simp [bld]
  | x::xs,a,b,none,ah=>by
    simp only [bld]
    split
    · have:=bld_len c xs (a+ad3 x) (b+ad2 x) none x.f1
      simp at this ⊢
      omega
    · have:=bld_len c xs (a+ad3 x) (b+ad2 x) (some (a-min c ah.length,b-min c ah.length,hunk_Build.lead c ah++ [x])) []
      simp at this ⊢
      omega
  | x::xs,a,b,some (a0,b0,now),ah=>by
    have h1:=bld_len c xs (a+ad3 x) (b+ad2 x) none x.f1
    have h2:=bld_len c xs (a+ad3 x) (b+ad2 x) (some (a0,b0,now++ [x])) ah
    simp only [bld]
    split
    · split
      · simp at h1 ⊢
        omega
      · simp at h2 ⊢
        omega
    · simp at h2 ⊢
      omega
theorem hnk_len (c:Nat) (n:List S47):(hnk c n).length≤n.length:=by
  have:=bld_len c n 0 0 none []
  unfold hnk
  simpa using this
end Go.Proofs.Ytfnbodjmmkjlcaa.H
namespace Go.Proofs.Ytfnbodjmmkjlcaa.H
open Go.RowKit Go.Proofs.YtfnbodjmmkjlcaaW.PrintWords Go.Proofs.YtfnbodjmmkjlcaaW.PrintLast Go.Proofs.YtfnbodjmmkjlcaaW.PrintMore
set_option linter.unusedVariables false
set_option linter.unusedSimpArgs false
def chgAt (l:List S47) (j:Nat):Prop:=j<l.length∧(l.getD j z47).f0≠1
def inB (l:List S47) (c i:Nat):Prop:= ∃j,chgAt l j∧i≤j+c∧j≤i+c
theorem near_l0 (l:List S47) (i c:Nat) (hi:i≤1000000000) (hc:c≤1000000000): ∀(d:Nat) (x:Int),x+d=(i:Int)+c+1→ -1000000000≤x→ ∃r,Ev (fun k=>jalousieref09_near.l0 k l (i:Int) (c:Int) x) r∧(r=true↔ ∃j:Nat,x≤j∧(j:Int)≤i+c∧chgAt l j)
  | 0,x,h,hx=>by
    refine⟨false,ev_succ ?_,?_⟩
    · simp only [jalousieref09_near.l0]
      rw [w64i ((i:Int)+(c:Int)) (by omega) (by omega)]
      exact ev_neg (by omega) (ev_some rfl)
    · constructor
      · intro h
        cases h
      · rintro ⟨j,h1,h2,_⟩
        omega
  | d+1,x,h,hx=>by
    obtain⟨r,hr,hr2⟩:=near_l0 l i c hi hc d (x+1) (by omega) (by omega)
    have hw:wrap64 (x+1)=x+1:=w64i _ (by omega) (by omega)
    by_cases hch:0≤x∧chgAt l x.toNat
    · refine⟨true,ev_succ ?_,?_⟩
      · simp only [jalousieref09_near.l0]
        rw [w64i ((i:Int)+(c:Int)) (by omega) (by omega)]
        obtain⟨h0,h1,h2⟩:=hch
        refine ev_pos (by omega) (ev_pos (by omega) (ev_pos (by omega) (ev_pos (by omega) (ev_neg ?_ (ev_some rfl)))))
        rw [show x=(x.toNat:Int) by omega,rdE]
        exact h2
      · exact⟨fun _=>⟨x.toNat,by omega,by omega,hch.2⟩,fun _=>rfl⟩
    · refine⟨r,ev_succ ?_,?_⟩
      · simp only [jalousieref09_near.l0]
        rw [w64i ((i:Int)+(c:Int)) (by omega) (by omega),hw]
        refine ev_pos (by omega) ?_
        by_cases h0:0≤x
        · refine ev_pos (by omega) ?_
          by_cases h1:x<(l.length:Int)
          · refine ev_pos h1 (ev_pos h0 (ev_pos ?_ hr))
            rw [show x=(x.toNat:Int) by omega,rdE]
            exact Classical.byContradiction fun e=>hch ⟨h0,by omega,e⟩
          · exact ev_neg h1 hr
        · exact ev_neg (by omega) hr
      · rw [hr2]
        constructor
        · rintro ⟨j,h1,h2⟩
          exact⟨j,by omega,h2⟩
        · rintro ⟨j,h1,h2,h3⟩
          refine⟨j,?_,h2,h3⟩
          rcases Int.lt_or_eq_of_le h1 with h4|h4
          · omega
          · exfalso
            refine hch ⟨by omega,?_⟩
            rw [h4]
            exact h3
theorem near_ev (l:List S47) (i c:Nat) (hi:i≤1000000000) (hc:c≤1000000000): ∃r,Ev (fun k=>jalousieref09_near.f k l (i:Int) (c:Int)) r∧(r=true↔inB l c i):=by
  obtain⟨r,h1,h2⟩:=near_l0 l i c hi hc (2*c+1) ((i:Int)-c) (by omega) (by omega)
  refine⟨r,?_,h2.trans ⟨?_,?_⟩⟩
  · unfold jalousieref09_near.f
    rw [w64i ((i:Int)-(c:Int)) (by omega) (by omega)]
    exact h1
  · rintro ⟨j,h3,h4,h5⟩
    exact⟨j,h5,by omega,by omega⟩
  · rintro ⟨j,h5,h3,h4⟩
    exact⟨j,by omega,by omega,h5⟩
theorem isin_ev (l:List S47) (i c:Nat) (hi:i<l.length) (hl:l.length≤1000000000) (hc:c≤1000000000) (hk:allok l=true): ∃r,Ev (fun k=>jalousieref09_Build.isin k c l i) r∧(r=true↔inB l c i):=by
  unfold jalousieref09_Build.isin
  have hx:1≤(l.getD i z47).f0∧(l.getD i z47).f0≤3:=by
    have:=List.all_eq_true.1 hk _ (getD_mem hi z47)
    simpa using this
  by_cases h1:(l.getD i z47).f0=1
  · obtain⟨r,h2,h3⟩:=near_ev l i c (by omega) hc
    exact⟨r,ev_pos h1 h2,h3⟩
  · exact⟨true,ev_neg h1 (ev_pos (by omega) (ev_some rfl)),fun _=>⟨i,⟨hi,h1⟩,by omega,by omega⟩,fun _=>rfl⟩
def stepAll:List S47→Bool→jalousieref09_Build.Q→Option jalousieref09_Build.Q
  | [],_,q=>some q
  | x::t,b,q=>(jalousieref09_Build.step x b q).bind (stepAll t b)
theorem drop_app {α:Type} {l s t:List α} {i:Nat} (h:l.drop i=s++t):l.drop (i+s.length)=t:=by
  rw [← List.drop_drop,h,List.drop_left]
theorem loop_run (l:List S47) (c:Nat) (b:Bool) (hl:l.length≤1000000000) (hc:c≤1000000000) (hk:allok l=true) (rest:List S47) (r:jalousieref09_Build.Q): ∀(ls:List S47) (i:Nat) (q q':jalousieref09_Build.Q),i≤l.length→l.drop i=ls++rest→(∀j,j<ls.length→(b=true↔inB l c (i+j)))→stepAll ls b q=some q'→Ev (fun k=>jalousieref09_Build.loop k c l rest.length q') r→Ev (fun k=>jalousieref09_Build.loop k c l (ls.length+rest.length) q) r
  | [],i,q,q',hi,hd,hb,hs,h=>by
    obtain rfl:=Option.some.inj hs
    rw [List.length_nil,Nat.zero_add]
    exact h
  | x::t,i,q,q',hi,hd,hb,hs,h=>by
    have hlen:i+((x::t).length+rest.length)=l.length:=by
      have:=congrArg List.length hd
      rw [List.length_drop,List.length_append] at this
      omega
    rw [List.length_cons] at hlen
    have hx:l.getD i z47=x:=by
      have h0:=congrArg (fun s=>s[0]?) hd
      simp only [List.cons_append,List.getElem?_cons_zero,List.getElem?_drop,Nat.add_zero] at h0
      exact getD_some h0 _
    simp only [stepAll] at hs
    obtain⟨q1,h1,h2⟩:=Option.bind_eq_some_iff.1 hs
    obtain⟨f,hf,hf2⟩:=isin_ev l i c (by omega) hl hc hk
    have hfb:f=b:=by
      have h3:=hb 0 (by simp)
      rw [Nat.add_zero] at h3
      cases f<;>cases b<;>simp_all
    have e:(x::t).length+rest.length=t.length+rest.length+1:=by rw [List.length_cons];omega
    rw [e]
    simp only [jalousieref09_Build.loop]
    rw [show l.length-(t.length+rest.length+1)=i by omega]
    refine Ev.bind hf ?_
    rw [hx,hfb]
    refine ev_bind h1 ?_
    refine loop_run l c b hl hc hk rest r t (i+1) q1 q' (by omega) ?_ ?_ h2 h
    · have h5:=drop_app (s:= [x]) (t:=t++rest) (by simpa using hd)
      simpa using h5
    · intro j hj
      have:=hb (j+1) (by simp;omega)
      rw [show i+1+j=i+(j+1) by omega]
      exact this
def lns (d:Int) (ls:List S66):List S47:=ls.map fun l=>⟨d,[l]⟩
def mkR (a0 b0:Nat) (now:List S47):S44:=⟨a0,((side now 3).length:Int),b0,((side now 2).length:Int),single now⟩
theorem side_one (now:List S47) (d:Int) (ls:List S66) (b:Int):(side (now++ [⟨d,ls⟩]) b).length=(side now b).length+(if d=b then 0 else ls.length):=by
  rw [side_append,side_cons]
  simp only [List.length_append]
  split<;>simp [side]
theorem single_one (now:List S47) (d:Int) (ls:List S66):single (now++ [⟨d,ls⟩])=single now++lns d ls:=by
  rw [single_append]
  simp [single,one,lns]
theorem step_true (o:List S44) (a b a0 b0:Nat) (now:List S47) (d:Int) (l:S66) (ha:a=a0+(side now 3).length) (hb:b=b0+(side now 2).length):
    jalousieref09_Build.step ⟨d,[l]⟩ true ⟨o++ [mkR a0 b0 now],a,b,true⟩=some ⟨o++ [mkR a0 b0 (now++ [⟨d,[l]⟩])],a+(if d=3 then 0 else 1),b+(if d=2 then 0 else 1),true⟩:=by
  unfold jalousieref09_Build.step
  simp only [if_true,List.reverse_append,List.reverse_singleton,List.singleton_append,List.reverse_reverse]
  have e3:(if d=3 then a else a+1)=a+(if d=3 then 0 else 1):=by split<;>rfl
  have e2:(if d=2 then b else b+1)=b+(if d=2 then 0 else 1):=by split<;>rfl
  rw [e3,e2]
  congr 1
  congr 1
  congr 1
  congr 1
  unfold mkR
  rw [side_one,side_one,single_one]
  congr 1
  · subst ha
    split<;>simp<;>omega
  · subst hb
    split<;>simp<;>omega
theorem all_true (o:List S44) (a0 b0:Nat) (d:Int): ∀(ls:List S66) (a b:Nat) (now:List S47),a=a0+(side now 3).length→b=b0+(side now 2).length→
    stepAll (lns d ls) true ⟨o++ [mkR a0 b0 now],a,b,true⟩=some ⟨o++ [mkR a0 b0 (now++ [⟨d,ls⟩])],a+(if d=3 then 0 else ls.length),b+(if d=2 then 0 else ls.length),true⟩
  | [],a,b,now,ha,hb=>by
    have e:mkR a0 b0 (now++ [⟨d,[]⟩])=mkR a0 b0 now:=by
      unfold mkR
      rw [side_one,side_one,single_one]
      simp [lns]
    rw [e]
    simp [lns,stepAll]
  | l::ls,a,b,now,ha,hb=>by
    simp only [lns,List.map_cons,stepAll]
    rw [step_true o a b a0 b0 now d l ha hb]
    simp only [Option.bind_some]
    have ih:=all_true o a0 b0 d ls (a+(if d=3 then 0 else 1)) (b+(if d=2 then 0 else 1)) (now++ [⟨d,[l]⟩]) (by rw [side_one];subst ha;simp [Nat.add_assoc]) (by rw [side_one];subst hb;simp [Nat.add_assoc])
    unfold lns at ih
    rw [ih]
    have e:mkR a0 b0 (now++ [⟨d,[l]⟩]++ [⟨d,ls⟩])=mkR a0 b0 (now++ [⟨d,l::ls⟩]):=by
      unfold mkR
      rw [side_one,side_one,side_one,side_one,side_one,side_one,single_one,single_one,single_one]
      congr 1
      · split<;>simp<;>omega
      · split<;>simp<;>omega
      · simp [lns]
    rw [e]
    congr 1
    congr 1
    · split<;>simp<;>omega
    · split<;>simp<;>omega
theorem step_off (o:List S44) (a b:Nat) (x:S47):jalousieref09_Build.step x true ⟨o,a,b,false⟩=jalousieref09_Build.step x true ⟨o++ [mkR a b []],a,b,true⟩:=by
  unfold jalousieref09_Build.step mkR
  simp [side,single]
theorem all_off (o:List S44) (a b:Nat) (d:Int) (ls:List S66) (h:ls≠ []):stepAll (lns d ls) true ⟨o,a,b,false⟩=some ⟨o++ [mkR a b [⟨d,ls⟩]],a+(if d=3 then 0 else ls.length),b+(if d=2 then 0 else ls.length),true⟩:=by
  cases ls with
  | nil=>exact absurd rfl h
  | cons l ls=>
    have h1:=all_true o a b d (l::ls) a b [] (by simp [side]) (by simp [side])
    have e:mkR a b [⟨d,l::ls⟩]=mkR a b ([]++ [⟨d,l::ls⟩]):=rfl
    rw [e, ← h1]
    simp only [lns,List.map_cons,stepAll]
    rw [step_off]
theorem all_false: ∀(ls:List S66) (q:jalousieref09_Build.Q),stepAll (lns 1 ls) false q=some ⟨q.out,q.a+ls.length,q.b+ls.length,if ls= [] then q.on else false⟩
  | [],q=>rfl
  | l::ls,q=>by
    simp only [lns,List.map_cons,stepAll]
    have e:jalousieref09_Build.step (⟨1,[l]⟩:S47) false q=some ⟨q.out,q.a+1,q.b+1,false⟩:=by
      unfold jalousieref09_Build.step
      simp
    rw [e]
    simp only [Option.bind_some]
    have ih:=all_false ls ⟨q.out,q.a+1,q.b+1,false⟩
    unfold lns at ih
    rw [ih]
    simp
    omega
theorem single_get_one (x:S47) (j:Nat) (hj:j<x.f1.length):((one x).getD j z47).f0=x.f0:=by
  unfold one
  rw [getD_lt (by simpa using hj)]
  simp
theorem one_len (x:S47):(one x).length=x.f1.length:=by simp [one]
theorem getD_left {α:Type} (s t:List α) (j:Nat) (d:α) (h:j<s.length):(s++t).getD j d=s.getD j d:=by
  rw [List.getD_eq_getElem?_getD,List.getElem?_append_left h,List.getD_eq_getElem?_getD]
theorem getD_right {α:Type} (s t:List α) (j:Nat) (d:α):(s++t).getD (s.length+j) d=t.getD j d:=by
  rw [List.getD_eq_getElem?_getD,List.getElem?_append_right (by omega),List.getD_eq_getElem?_getD]
  congr 2
  omega
theorem near_keep (pre xs:List S47) (x:S47) (hn:Nf (pre++x::xs)) (hx:x.f0=1) (c j:Nat) (hj:j<x.f1.length):inB (single (pre++x::xs)) c (nl pre+j)↔(pre≠ []∧j+1≤c)∨(xs≠ []∧x.f1.length≤j+c):=by
  have hP:=single_len pre
  have hS:=single_len xs
  have h1:=one_len x
  have el:single (pre++x::xs)=single pre++(one x++single xs):=by rw [single_append,single_cons]
  rw [el]
  constructor
  · rintro ⟨i,⟨h2,h3⟩,h4,h5⟩
    rw [List.length_append,List.length_append,hP,h1,hS] at h2
    by_cases a1:i<nl pre
    · refine .inl ⟨fun e=>?_,by omega⟩
      subst e
      rw [nl_nil] at a1
      omega
    · by_cases a2:i<nl pre+x.f1.length
      · exfalso
        apply h3
        rw [show i=(single pre).length+(i-nl pre) by omega,getD_right,getD_left _ _ _ _ (by omega),single_get_one x _ (by omega),hx]
      · refine .inr ⟨fun e=>?_,by omega⟩
        subst e
        rw [nl_nil] at h2
        omega
  · rintro (⟨h2,h3⟩|⟨h2,h3⟩)
    · rcases snoc_cases pre with rfl|⟨t,y,rfl⟩
      · exact absurd rfl h2
      have hadj:=((nf_append _ _).1 hn).2.2 y (by simp) x (by simp)
      have hg:=((nf_snoc t y).1 ((nf_append _ _).1 hn).1).2.1
      have hy:y.f0≠1:=by
        rw [hx] at hadj
        simp [adj] at hadj
        omega
      have hyl:=List.length_pos_iff.2 hg.2
      have e2:nl (t++ [y])=nl t+y.f1.length:=by rw [nl_append,nl_cons,nl_nil,Nat.add_zero]
      refine⟨nl t+(y.f1.length-1),⟨?_,?_⟩,by omega,by omega⟩
      · rw [List.length_append,hP]
        omega
      · rw [getD_left _ _ _ _ (by omega),single_append,show single [y]=one y by simp [single],show nl t+(y.f1.length-1)=(single t).length+(y.f1.length-1) by rw [single_len],getD_right,single_get_one y _ (by omega)]
        exact hy
    · cases xs with
      | nil=>exact absurd rfl h2
      | cons y t=>
        have hn2:=((nf_append _ _).1 hn).2.1
        have hadj:=hn2.2.1 y (by simp)
        have hg:good y:=hn2.2.2.1
        have hy:y.f0≠1:=by
          rw [hx] at hadj
          simp [adj] at hadj
          omega
        have hyl:=List.length_pos_iff.2 hg.2
        refine⟨nl pre+x.f1.length,⟨?_,?_⟩,by omega,by omega⟩
        · rw [List.length_append,List.length_append,hP,h1,hS,nl_cons]
          omega
        · rw [show nl pre+x.f1.length=(single pre).length+((one x).length+0) by rw [hP,h1];omega,getD_right,getD_right,single_cons,getD_left _ _ _ _ (by rw [one_len];exact hyl),single_get_one y 0 hyl]
          exact hy
theorem near_change (pre xs:List S47) (x:S47) (hx:x.f0≠1) (c j:Nat) (hj:j<x.f1.length):inB (single (pre++x::xs)) c (nl pre+j):=by
  have hP:=single_len pre
  have h1:=one_len x
  refine⟨nl pre+j,⟨?_,?_⟩,by omega,by omega⟩
  · rw [single_append,single_cons,List.length_append,List.length_append,hP,h1]
    omega
  · rw [single_append,single_cons, ← hP,getD_right,getD_left _ _ _ _ (by omega),single_get_one x j hj]
    exact hx
theorem drop_single (pre xs:List S47) (x:S47) (u:Nat) (hu:u≤x.f1.length):(single (pre++x::xs)).drop (nl pre+u)=lns x.f0 (x.f1.drop u)++single xs:=by
  rw [single_append,single_cons, ← single_len pre, ← List.drop_drop,List.drop_left,List.drop_append_of_le_length (by rw [one_len];exact hu)]
  simp [one,lns]
theorem allok_single (s:List S47) (h:allok s=true):allok (single s)=true:=by
  unfold allok single
  rw [List.all_eq_true]
  intro y hy
  obtain⟨x,hx,hy⟩:=List.mem_flatMap.1 hy
  unfold one at hy
  obtain⟨l,_,rfl⟩:=List.mem_map.1 hy
  exact List.all_eq_true.1 h x hx
def toR (h:S44):S44:=⟨h.f0,h.f1,h.f2,h.f3,single h.f4⟩
theorem toR_mk (a0 b0:Nat) (now:List S47):toR (mkH a0 b0 now)=mkR a0 b0 now:=rfl
theorem mkR_nil (a0 b0:Nat) (now:List S47) (d:Int):mkR a0 b0 (now++ [⟨d,[]⟩])=mkR a0 b0 now:=by
  unfold mkR
  rw [side_one,side_one,single_one]
  simp [lns]
theorem mkR_trail (c a0 b0:Nat) (now:List S47) (l:List S66):mkR a0 b0 (now++ [⟨1,l.take (min c l.length)⟩])=mkR a0 b0 (now++hunk_Build.trail c l):=by
  unfold hunk_Build.trail
  by_cases h:0<min c l.length
  · rw [if_pos h]
  · rw [if_neg h,show min c l.length=0 by omega,List.take_zero,mkR_nil,List.append_nil]
def RelQ (c:Nat) (n:List S47) (a b:Nat) (cur:Option (Nat×Nat×List S47)) (ah:List S66) (o:List S44) (q:jalousieref09_Build.Q):Prop:=match cur with
  | none=>q.out=(if n≠ []∧0<min c ah.length then o++ [mkR (a-min c ah.length) (b-min c ah.length) (hunk_Build.lead c ah)] else o)∧q.a=a∧q.b=b∧(n≠ []→q.on=decide (0<min c ah.length))∧ah.length≤a∧ah.length≤b
  | some (a0,b0,now)=>q=⟨o++ [mkR a0 b0 now],a,b,true⟩∧a=a0+(side now 3).length∧b=b0+(side now 2).length
theorem lead_side (c:Nat) (ah:List S66) (b:Int) (hb:b≠1):(side (hunk_Build.lead c ah) b).length=min c ah.length:=by
  unfold hunk_Build.lead
  split
  · rw [side_cons,if_neg (fun e=>hb e.symm)]
    simp [side]
    omega
  · simp [side]
    omega
theorem seg_run (c:Nat) (hc:c≤1000000000) (pre xs:List S47) (x:S47) (hN:Nf (pre++x::xs)) (hl:nl (pre++x::xs)≤1000000000) (r:jalousieref09_Build.Q) (u v:Nat) (huv:u≤v) (hv:v≤x.f1.length) (f:Bool) (hb: ∀j,u≤j→j<v→(f=true↔inB (single (pre++x::xs)) c (nl pre+j))) (q q':jalousieref09_Build.Q)
    (hs:stepAll (lns x.f0 ((x.f1.take v).drop u)) f q=some q') (h:Ev (fun k=>jalousieref09_Build.loop k c (single (pre++x::xs)) (x.f1.length-v+nl xs) q') r):Ev (fun k=>jalousieref09_Build.loop k c (single (pre++x::xs)) (x.f1.length-u+nl xs) q) r:=by
  have hlen:(single (pre++x::xs)).length≤1000000000:=by rw [single_len];exact hl
  have hl1:(lns x.f0 ((x.f1.take v).drop u)).length=v-u:=by simp [lns];omega
  have hl2:(lns x.f0 (x.f1.drop v)++single xs).length=x.f1.length-v+nl xs:=by rw [List.length_append,single_len];simp [lns]
  have e:x.f1.length-u+nl xs=(lns x.f0 ((x.f1.take v).drop u)).length+(lns x.f0 (x.f1.drop v)++single xs).length:=by omega
  rw [e]
  refine loop_run _ c f hlen hc (allok_single _ (nf_allok _ hN)) _ r _ (nl pre+u) q q' ?_ ?_ ?_ hs (by rw [hl2];exact h)
  · rw [single_len,nl_append,nl_cons]
    omega
  · rw [drop_single pre xs x u (by omega), ← List.append_assoc]
    congr 1
    have e2:x.f1.drop u=(x.f1.take v).drop u++x.f1.drop v:=by
      rw [← List.drop_append_of_le_length (by rw [List.length_take];omega),List.take_append_drop]
    rw [e2]
    simp [lns]
  · intro j hj
    rw [hl1] at hj
    rw [show nl pre+u+j=nl pre+(u+j) by omega]
    exact hb (u+j) (by omega) (by omega)
theorem gap_run (c:Nat) (hc:c≤1000000000) (pre xs:List S47) (x:S47) (hN:Nf (pre++x::xs)) (hl:nl (pre++x::xs)≤1000000000) (e1:x.f0=1) (w u a b:Nat) (hw:w=if xs= [] then 0 else min c x.f1.length) (huw:u+w≤x.f1.length)
    (hb0: ∀j,u≤j→j<x.f1.length-w→ ¬inB (single (pre++x::xs)) c (nl pre+j)) (o:List S44) (q:jalousieref09_Build.Q) (ho:q.out=o) (ha:q.a=a+u) (hb:q.b=b+u) (hon:xs≠ []→q.on=false∨u+w<x.f1.length):
    ∃q'',RelQ c xs (a+x.f1.length) (b+x.f1.length) none x.f1 o q''∧ ∀r,Ev (fun k=>jalousieref09_Build.loop k c (single (pre++x::xs)) (nl xs) q'') r→Ev (fun k=>jalousieref09_Build.loop k c (single (pre++x::xs)) (x.f1.length-u+nl xs) q) r:=by
  have hb1: ∀j,x.f1.length-w≤j→j<x.f1.length→inB (single (pre++x::xs)) c (nl pre+j):=by
    intro j h1 h2
    rw [near_keep pre xs x hN e1 c j h2]
    by_cases hxs:xs= []
    · rw [if_pos hxs] at hw
      omega
    · rw [if_neg hxs] at hw
      exact .inr ⟨hxs,by omega⟩
  have h1:=all_false ((x.f1.take (x.f1.length-w)).drop u) q
  have hl1:((x.f1.take (x.f1.length-w)).drop u).length=x.f1.length-w-u:=by rw [List.length_drop,List.length_take];omega
  rw [hl1,ho,ha,hb] at h1
  have s1: ∀q' r,stepAll (lns x.f0 ((x.f1.take (x.f1.length-w)).drop u)) false q=some q'→Ev (fun k=>jalousieref09_Build.loop k c (single (pre++x::xs)) (x.f1.length-(x.f1.length-w)+nl xs) q') r→Ev (fun k=>jalousieref09_Build.loop k c (single (pre++x::xs)) (x.f1.length-u+nl xs) q) r:=fun q' r hs h=>seg_run c hc pre xs x hN hl r u (x.f1.length-w) (by omega) (by omega) false (fun j h2 h3=>⟨(fun h=>by cases h),fun h=>absurd h (hb0 j h2 h3)⟩) q q' hs h
  rw [e1] at s1
  by_cases hxs:xs= []
  · rw [if_pos hxs] at hw
    subst hw
    subst hxs
    refine⟨_,?_,fun r h=>s1 _ r h1 (by simpa using h)⟩
    refine⟨by simp,by simp;omega,by simp;omega,fun h=>absurd rfl h,by omega,by omega⟩
  · rw [if_neg hxs] at hw
    have hoff:(if (x.f1.take (x.f1.length-w)).drop u= [] then q.on else false)=false:=by
      split
      · rename_i hnil
        rcases hon hxs with h|h
        · exact h
        · rw [hnil] at hl1
          simp at hl1
          omega
      · rfl
    rw [hoff] at h1
    by_cases hw0:w=0
    · refine⟨_,?_,fun r h=>s1 _ r h1 (by rw [hw0];simpa using h)⟩
      have hm: ¬0<min c x.f1.length:=by omega
      refine⟨?_,by simp;omega,by simp;omega,fun _=>(decide_eq_false hm).symm,by omega,by omega⟩
      rw [if_neg (fun h=>hm h.2)]
    · have hm:0<min c x.f1.length:=by omega
      have e2:(x.f1.take x.f1.length).drop (x.f1.length-w)=x.f1.drop (x.f1.length-w):=by rw [List.take_length]
      have hne:x.f1.drop (x.f1.length-w)≠ []:=by
        intro e
        have:=congrArg List.length e
        rw [List.length_drop,List.length_nil] at this
        omega
      have hl2:(x.f1.drop (x.f1.length-w)).length=w:=by rw [List.length_drop];omega
      have h2:=all_off o (a+u+(x.f1.length-w-u)) (b+u+(x.f1.length-w-u)) 1 _ hne
      rw [if_neg (by omega),if_neg (by omega),hl2] at h2
      refine⟨_,?_,fun r h=>s1 _ r h1 (seg_run c hc pre xs x hN hl r (x.f1.length-w) x.f1.length (by omega) (Nat.le_refl _) true (fun j h3 h4=>⟨fun _=>hb1 j h3 h4,fun _=>rfl⟩) _ _ (by rw [e1,e2];exact h2) (by simpa using h))⟩
      refine⟨?_,by simp only;omega,by simp only;omega,fun _=>(decide_eq_true hm).symm,by omega,by omega⟩
      rw [if_pos ⟨hxs,hm⟩]
      simp only
      unfold hunk_Build.lead
      rw [if_pos hm, ← hw]
      have ea:a+u+(x.f1.length-w-u)=a+x.f1.length-w:=by omega
      have eb:b+u+(x.f1.length-w-u)=b+x.f1.length-w:=by omega
      rw [ea,eb]
theorem ref_sim (c:Nat) (hc:c≤1000000000): ∀(n pre:List S47) (a b:Nat) (cur:Option (Nat×Nat×List S47)) (ah:List S66) (o:List S44) (q:jalousieref09_Build.Q),Nf (pre++n)→nl (pre++n)≤1000000000→RelQ c n a b cur ah o q→
    (cur=none→(pre= []∧ah= [])∨(pre≠ []∧ ∀y∈pre.getLast?,y.f0=1))→(cur≠none→pre≠ [])→
    ∃qF,Ev (fun k=>jalousieref09_Build.loop k c (single (pre++n)) (nl n) q) qF∧qF.out=o++(bld c n a b cur ah).map toR
  | [],pre,a,b,none,ah,o,q,hN,hl,hR,hp,hp2=>by
    refine⟨q,ev_some rfl,?_⟩
    rw [hR.1]
    simp [bld]
  | [],pre,a,b,some (a0,b0,now),ah,o,q,hN,hl,hR,hp,hp2=>by
    refine⟨q,ev_some rfl,?_⟩
    rw [hR.1]
    simp [bld,toR_mk]
  | x::xs,pre,a,b,none,ah,o,q,hN,hl,hR,hp,hp2=>by
    obtain⟨h1,h2,h3,h4,h5,h6⟩:=hR
    have hx0:x.f1≠ []:=((nf_append _ _).1 hN).2.1.1.2
    have hxl:=List.length_pos_iff.2 hx0
    have happ:pre++x::xs=(pre++ [x])++xs:=by simp
    have hN':=hN
    have hl':=hl
    rw [happ] at hN' hl'
    simp only [bld]
    by_cases e1:x.f0=1
    · rw [if_pos e1]
      have hpre:pre= []∧ah= []:=by
        refine(hp rfl).resolve_right fun h=>?_
        rcases snoc_cases pre with rfl|⟨t,y,rfl⟩
        · exact h.1 rfl
        · have hadj:=((nf_append _ _).1 hN).2.2 y (by simp) x (by simp)
          have:=h.2 y (by simp)
          simp [adj,this,e1] at hadj
      obtain⟨hpe,hah⟩:=hpre
      have e3:ad3 x=x.f1.length:=by unfold ad3;rw [if_neg (by omega)]
      have e2:ad2 x=x.f1.length:=by unfold ad2;rw [if_neg (by omega)]
      rw [e3,e2]
      obtain⟨q',hq,hrun⟩:=gap_run c hc pre xs x hN hl e1 (if xs= [] then 0 else min c x.f1.length) 0 a b rfl (by split<;>omega) (by
        intro j h7 h8 h9
        rw [near_keep pre xs x hN e1 c j (by omega)] at h9
        rcases h9 with h9|h9
        · exact h9.1 hpe
        · rw [if_neg h9.1] at h8
          omega) o q (by rw [h1,if_neg (by rw [hah];simp)]) (by rw [h2];rfl) (by rw [h3];rfl) (fun _=> .inl (by rw [h4 (by simp),hah];simp))
      obtain⟨qF,h7,h8⟩:=ref_sim c hc xs (pre++ [x]) (a+x.f1.length) (b+x.f1.length) none x.f1 o q' hN' hl' hq (fun _=> .inr ⟨by simp,fun y hy=>by simp at hy;rw [← hy];exact e1⟩) (fun h=>absurd rfl h)
      rw [← happ] at h7
      refine⟨qF,?_,h8⟩
      have:=hrun qF h7
      rw [Nat.sub_zero] at this
      rw [nl_cons]
      exact this
    · rw [if_neg e1]
      have hflag: ∀j,0≤j→j<x.f1.length→(true=true↔inB (single (pre++x::xs)) c (nl pre+j)):=fun j _ hj=>⟨fun _=>near_change pre xs x e1 c j hj,fun _=>rfl⟩
      have etk:(x.f1.take x.f1.length).drop 0=x.f1:=by simp
      have fin: ∀q',RelQ c xs (a+ad3 x) (b+ad2 x) (some (a-min c ah.length,b-min c ah.length,hunk_Build.lead c ah++ [x])) [] o q'→stepAll (lns x.f0 x.f1) true q=some q'→ ∃qF,Ev (fun k=>jalousieref09_Build.loop k c (single (pre++x::xs)) (nl (x::xs)) q) qF∧qF.out=o++(bld c xs (a+ad3 x) (b+ad2 x) (some (a-min c ah.length,b-min c ah.length,hunk_Build.lead c ah++ [x])) []).map toR:=by
        intro q' hq hs
        obtain⟨qF,h7,h8⟩:=ref_sim c hc xs (pre++ [x]) (a+ad3 x) (b+ad2 x) (some (a-min c ah.length,b-min c ah.length,hunk_Build.lead c ah++ [x])) [] o q' hN' hl' hq (fun h=>by cases h) (fun _=>by simp)
        rw [← happ] at h7
        refine⟨qF,?_,h8⟩
        have:=seg_run c hc pre xs x hN hl qF 0 x.f1.length (by omega) (Nat.le_refl _) true hflag q q' (by rw [etk];exact hs) (by simpa using h7)
        rw [Nat.sub_zero] at this
        rw [nl_cons]
        exact this
      have hs3:=lead_side c ah 3 (by omega)
      have hs2:=lead_side c ah 2 (by omega)
      obtain⟨qo,qa,qb,qn⟩:=q
      simp only at h1 h2 h3 h4
      subst h2
      subst h3
      have h4':=h4 (by simp)
      by_cases hm:0<min c ah.length
      · rw [if_pos ⟨by simp,hm⟩] at h1
        rw [decide_eq_true hm] at h4'
        subst h1
        subst h4'
        refine fin _ ⟨rfl,?_,?_⟩ ?_
        · show _=_+(side (hunk_Build.lead c ah++ [⟨x.f0,x.f1⟩]) 3).length
          rw [side_one,hs3]
          unfold ad3
          omega
        · show _=_+(side (hunk_Build.lead c ah++ [⟨x.f0,x.f1⟩]) 2).length
          rw [side_one,hs2]
          unfold ad2
          omega
        · exact all_true o _ _ x.f0 x.f1 qa qb (hunk_Build.lead c ah) (by rw [hs3];omega) (by rw [hs2];omega)
      · rw [if_neg (fun h=>hm h.2)] at h1
        rw [decide_eq_false hm] at h4'
        subst h1
        subst h4'
        have hlead:hunk_Build.lead c ah= []:=by
          unfold hunk_Build.lead
          rw [if_neg hm]
        refine fin _ ⟨rfl,?_,?_⟩ ?_
        · show _=_+(side (hunk_Build.lead c ah++ [⟨x.f0,x.f1⟩]) 3).length
          rw [side_one,hs3]
          unfold ad3
          omega
        · show _=_+(side (hunk_Build.lead c ah++ [⟨x.f0,x.f1⟩]) 2).length
          rw [side_one,hs2]
          unfold ad2
          omega
        · have:=all_off qo qa qb x.f0 x.f1 hx0
          rw [this,hlead,List.nil_append,show min c ah.length=0 by omega,Nat.sub_zero,Nat.sub_zero]
          rfl
  | x::xs,pre,a,b,some (a0,b0,now),ah,o,q,hN,hl,hR,hp,hp2=>by
    obtain⟨hq,ha,hb⟩:=hR
    subst hq
    have hpre:=hp2 (by simp)
    have hx0:x.f1≠ []:=((nf_append _ _).1 hN).2.1.1.2
    have hxl:=List.length_pos_iff.2 hx0
    have happ:pre++x::xs=(pre++ [x])++xs:=by simp
    have hN':=hN
    have hl':=hl
    rw [happ] at hN' hl'
    have etk:(x.f1.take x.f1.length).drop 0=x.f1:=by simp
    have fin:(∀j,0≤j→j<x.f1.length→(true=true↔inB (single (pre++x::xs)) c (nl pre+j)))→ ∃qF,Ev (fun k=>jalousieref09_Build.loop k c (single (pre++x::xs)) (nl (x::xs)) ⟨o++ [mkR a0 b0 now],a,b,true⟩) qF∧qF.out=o++(bld c xs (a+ad3 x) (b+ad2 x) (some (a0,b0,now++ [x])) ah).map toR:=by
      intro hflag
      have hs:=all_true o a0 b0 x.f0 x.f1 a b now ha hb
      obtain⟨qF,h7,h8⟩:=ref_sim c hc xs (pre++ [x]) (a+ad3 x) (b+ad2 x) (some (a0,b0,now++ [x])) ah o ⟨o++ [mkR a0 b0 (now++ [x])],a+ad3 x,b+ad2 x,true⟩ hN' hl' ⟨rfl,by
        show _=_+(side (now++ [⟨x.f0,x.f1⟩]) 3).length
        rw [side_one]
        unfold ad3
        omega,by
        show _=_+(side (now++ [⟨x.f0,x.f1⟩]) 2).length
        rw [side_one]
        unfold ad2
        omega⟩ (fun h=>by cases h) (fun _=>by simp)
      rw [← happ] at h7
      refine⟨qF,?_,h8⟩
      have:=seg_run c hc pre xs x hN hl qF 0 x.f1.length (by omega) (Nat.le_refl _) true hflag _ _ (by rw [etk];exact hs) (by rw [Nat.sub_self,Nat.zero_add];exact h7)
      rw [Nat.sub_zero] at this
      rw [nl_cons]
      exact this
    simp only [bld]
    by_cases e1:x.f0=1
    · rw [if_pos e1]
      by_cases hlast:xs.isEmpty=true∨2*c<x.f1.length
      · rw [if_pos hlast]
        have e3:ad3 x=x.f1.length:=by unfold ad3;rw [if_neg (by omega)]
        have e2:ad2 x=x.f1.length:=by unfold ad2;rw [if_neg (by omega)]
        rw [e3,e2]
        have hxs2:xs≠ []→2*c<x.f1.length:=fun h=>hlast.resolve_left (by simpa using h)
        have hlt:(x.f1.take (min c x.f1.length)).length=min c x.f1.length:=by rw [List.length_take];omega
        have hs:=all_true o a0 b0 1 (x.f1.take (min c x.f1.length)) a b now ha hb
        rw [if_neg (by omega),if_neg (by omega),hlt,mkR_trail] at hs
        obtain⟨q',hq,hrun⟩:=gap_run c hc pre xs x hN hl e1 (if xs= [] then 0 else min c x.f1.length) (min c x.f1.length) a b rfl (by
          by_cases h:xs= []
          · rw [if_pos h]
            omega
          · rw [if_neg h]
            have:=hxs2 h
            omega) (by
          intro j h7 h8 h9
          rw [near_keep pre xs x hN e1 c j (by omega)] at h9
          rcases h9 with h9|h9
          · have:=h9.2
            omega
          · rw [if_neg h9.1] at h8
            omega) (o++ [mkR a0 b0 (now++hunk_Build.trail c x.f1)]) ⟨o++ [mkR a0 b0 (now++hunk_Build.trail c x.f1)],a+min c x.f1.length,b+min c x.f1.length,true⟩ rfl rfl rfl (fun h=> .inr (by
          have:=hxs2 h
          rw [if_neg h]
          omega))
        obtain⟨qF,h7,h8⟩:=ref_sim c hc xs (pre++ [x]) (a+x.f1.length) (b+x.f1.length) none x.f1 _ q' hN' hl' hq (fun _=> .inr ⟨by simp,fun y hy=>by simp at hy;rw [← hy];exact e1⟩) (fun h=>absurd rfl h)
        rw [← happ] at h7
        refine⟨qF,?_,by rw [h8];simp [toR_mk]⟩
        have h9:=hrun qF h7
        have:=seg_run c hc pre xs x hN hl qF 0 (min c x.f1.length) (by omega) (by omega) true (fun j h10 h11=>⟨fun _=>by
          rw [near_keep pre xs x hN e1 c j (by omega)]
          exact .inl ⟨hpre,by omega⟩,fun _=>rfl⟩) _ _ (by rw [List.drop_zero,e1];exact hs) h9
        rw [Nat.sub_zero] at this
        rw [nl_cons]
        exact this
      · rw [if_neg hlast]
        refine fin fun j _ hj=>⟨fun _=>?_,fun _=>rfl⟩
        rw [near_keep pre xs x hN e1 c j hj]
        have hxs:xs≠ []:=fun e=>hlast (.inl (by rw [e];rfl))
        have h2c:x.f1.length≤2*c:=by
          have: ¬2*c<x.f1.length:=fun h=>hlast (.inr h)
          omega
        by_cases hjc:j+1≤c
        · exact .inl ⟨hpre,hjc⟩
        · exact .inr ⟨hxs,by omega⟩
    · rw [if_neg e1]
      exact fin fun j _ hj=>⟨fun _=>near_change pre xs x e1 c j hj,fun _=>rfl⟩
theorem nf_same (s t:List S47) (x y:S47) (h:Nf (s++x::t)) (hf:y.f0=x.f0) (hy:y.f1≠ []):Nf (s++y::t):=by
  obtain⟨h1,h2,h3⟩:=(nf_append _ _).1 h
  refine(nf_append _ _).2 ⟨h1,⟨⟨by rw [hf];exact h2.1.1,hy⟩,by rw [hf];exact h2.2.1,h2.2.2⟩,fun z hz w hw=>?_⟩
  simp at hw
  subst hw
  rw [hf]
  exact h3 z hz x (by simp)
theorem nf_left (s t:List S47) (h:Nf (s++t)):Nf s:=((nf_append _ _).1 h).1
theorem nf_trail (c:Nat) (now t:List S47) (x:S47) (h:Nf (now++x::t)) (hx:x.f0=1):Nf (now++hunk_Build.trail c x.f1):=by
  unfold hunk_Build.trail
  by_cases h0:0<min c x.f1.length
  · rw [if_pos h0]
    refine nf_left _ t ?_
    rw [List.append_assoc]
    refine nf_same now t x _ h hx.symm ?_
    intro e
    have h2:(x.f1.take c).length=0:=by
      have e':x.f1.take c= []:=by simpa using e
      rw [e']
      rfl
    rw [List.length_take] at h2
    omega
  · rw [if_neg h0,List.append_nil]
    exact nf_left _ _ h
theorem nf_lead (c:Nat) (t:List S47) (x:S47) (h:Nf (x::t)) (hx:x.f0=1):Nf (hunk_Build.lead c x.f1++t):=by
  unfold hunk_Build.lead
  by_cases h0:0<min c x.f1.length
  · rw [if_pos h0]
    refine nf_same [] t x _ h hx.symm ?_
    intro e
    have:=congrArg List.length e
    rw [List.length_drop,List.length_nil] at this
    omega
  · rw [if_neg h0]
    exact h.2.2
theorem bld_nf (c:Nat): ∀(n:List S47) (a b:Nat) (cur:Option (Nat×Nat×List S47)) (ah:List S66),(match cur with|none=>Nf (hunk_Build.lead c ah++n)∧ah.length+nl n≤800|some (_,_,now)=>Nf (now++n)∧nl now+nl n≤800)→Nf n→ ∀h∈bld c n a b cur ah,Nf h.f4∧nl h.f4≤800
  | [],a,b,none,ah,hc,hn,h,hh=>by simp [bld] at hh
  | [],a,b,some (a0,b0,now),ah,hc,hn,h,hh=>by
    simp [bld] at hh
    subst hh
    have h1:Nf (now++ []):=hc.1
    have h2:nl now+nl []≤800:=hc.2
    rw [List.append_nil] at h1
    exact⟨h1,h2⟩
  | x::xs,a,b,none,ah,hc,hn,h,hh=>by
    obtain⟨h1,h2⟩:=hc
    rw [nl_cons] at h2
    simp only [bld] at hh
    by_cases e1:x.f0=1
    · rw [if_pos e1] at hh
      exact bld_nf c xs _ _ none x.f1 ⟨nf_lead c xs x hn e1,by omega⟩ hn.2.2 h hh
    · rw [if_neg e1] at hh
      refine bld_nf c xs _ _ (some (a-min c ah.length,b-min c ah.length,hunk_Build.lead c ah++ [x])) [] ⟨?_,?_⟩ hn.2.2 h hh
      · simpa using h1
      · rw [nl_append,lead_nl,nl_cons,nl_nil]
        omega
  | x::xs,a,b,some (a0,b0,now),ah,hc,hn,h,hh=>by
    obtain⟨h1,h2⟩:=hc
    rw [nl_cons] at h2
    have hstep:Nf (now++ [x]++xs)∧nl (now++ [x])+nl xs≤800:=⟨by simpa using h1,by rw [nl_append,nl_cons,nl_nil];omega⟩
    simp only [bld] at hh
    by_cases e1:x.f0=1
    · rw [if_pos e1] at hh
      split at hh
      · rcases List.mem_cons.1 hh with rfl|hh
        · exact⟨nf_trail c now xs x h1 e1,by show nl (now++hunk_Build.trail c x.f1)≤_;rw [nl_append,trail_nl];omega⟩
        · exact bld_nf c xs _ _ none x.f1 ⟨nf_lead c xs x hn e1,by omega⟩ hn.2.2 h hh
      · exact bld_nf c xs _ _ _ _ hstep hn.2.2 h hh
    · rw [if_neg e1] at hh
      exact bld_nf c xs _ _ _ _ hstep hn.2.2 h hh
theorem hnk_nf (c:Nat) (n:List S47) (hn:Nf n) (hl:nl n≤800): ∀h∈hnk c n,Nf h.f4∧nl h.f4≤800:=by
  refine bld_nf c n 0 0 none [] ⟨?_,by simpa using hl⟩ hn
  unfold hunk_Build.lead
  rw [if_neg (by simp)]
  exact hn
theorem single_good (s:List S47) (h: ∀x∈s,good x): ∀x∈single s,good x:=by
  intro y hy
  unfold single at hy
  obtain⟨x,hx,hy⟩:=List.mem_flatMap.1 hy
  unfold one at hy
  obtain⟨l,_,rfl⟩:=List.mem_map.1 hy
  exact⟨(h x hx).1,by simp⟩
theorem nl_single (s:List S47):nl (single s)=nl s:=by
  induction s with
  | nil=>rfl
  | cons x t ih=>
    rw [single_cons,nl_append,ih,nl_cons]
    congr 1
    unfold one
    generalize x.f0=d
    induction x.f1 with
    | nil=>rfl
    | cons l ls ih2=>
      rw [List.map_cons,nl_cons,ih2]
      simp
      omega
theorem norm_ev: ∀(l:List S44),(∀h∈l,Nf h.f4∧nl h.f4≤800)→Ev (fun k=>jalousieref09_Build.norm k (l.map toR)) l
  | [],_=>ev_some rfl
  | h::t,hh=>by
    obtain⟨h1,h2⟩:=hh h (by simp)
    simp only [List.map_cons,jalousieref09_Build.norm]
    have hg:=single_good _ (nf_good _ h1)
    have hn:nl (single h.f4)≤800:=by rw [nl_single];exact h2
    refine Ev.bind (a:=(h.f4,0)) (ev_cast (rnrm_ev _ (good_fit _ (by show nl (single h.f4)≤_;omega) hg)) ?_) ?_
    · show nrm (single h.f4)=_
      unfold nrm
      rw [if_pos (good_chk _ hn hg),p_single,p_id _ h1]
    · refine Ev.bind (norm_ev t fun y hy=>hh y (List.mem_cons_of_mem _ hy)) (ev_some ?_)
      rfl
theorem rrun_ev (c:Nat) (hc:c≤1000000) (n:List S47) (hn:Nf n) (hl:nl n≤800):Ev (fun k=>jalousieref09_Build.run k c n) (hnk c n):=by
  unfold jalousieref09_Build.run
  refine Ev.bind (single_ev n (by omega) (by have:=nf_len n hn;omega)) ?_
  refine ev_pos (by rw [single_len];omega) ?_
  obtain⟨qF,h1,h2⟩:=ref_sim c (by omega) n [] 0 0 none [] [] ⟨[],0,0,false⟩ hn (by simpa using Nat.le_trans hl (by omega)) ⟨by simp,rfl,rfl,fun _=>by simp,Nat.le_refl _,Nat.le_refl _⟩ (fun _=> .inl ⟨rfl,rfl⟩) (fun h=>absurd rfl h)
  rw [List.nil_append] at h1
  rw [single_len]
  refine Ev.bind h1 ?_
  rw [h2,List.nil_append]
  exact norm_ev _ (hnk_nf c n hn hl)
theorem rbld_ev (s:List S47) (c:Int) (hf:Fit s):Ev (fun k=>jalousieref09_Build.f k s c) (hres s c):=by
  unfold jalousieref09_Build.f hres
  refine Ev.bind (rnrm_ev s hf) ?_
  unfold nrm
  by_cases h:chk s=0
  · rw [if_pos h,if_pos h]
    refine ev_pos rfl ?_
    by_cases hc:c<0∨20<c
    · refine ev_pos hc (ev_some ?_)
      rw [if_pos hc]
    · refine ev_neg hc ?_
      rw [if_neg hc]
      obtain⟨h1,h2,h3⟩:=chk_zero.1 h
      exact Ev.bind (rrun_ev _ (by omega) _ (p_nf s h3) (by rw [p_nl];exact h2)) (ev_some rfl)
  · rw [if_neg h,if_neg h]
    exact ev_neg h (ev_some rfl)
end Go.Proofs.Ytfnbodjmmkjlcaa.H
namespace Go.Proofs.Ytfnbodjmmkjlcaa.H
open Go.RowKit Go.Proofs.YtfnbodjmmkjlcaaW.PrintWords Go.Proofs.YtfnbodjmmkjlcaaW.PrintLast Go.Proofs.YtfnbodjmmkjlcaaW.PrintMore
set_option linter.unusedVariables false
set_option linter.unusedSimpArgs false
end Go.Proofs.Ytfnbodjmmkjlcaa.H
namespace Go.Proofs.Ytfnbodjmmkjlcaa.H
open Go.RowKit Go.Proofs.YtfnbodjmmkjlcaaW.PrintWords Go.Proofs.YtfnbodjmmkjlcaaW.PrintLast Go.Proofs.YtfnbodjmmkjlcaaW.PrintMore
set_option linter.unusedVariables false
set_option linter.unusedSimpArgs false
def rightB (h:S44):Bool:=decide (chk h.f4=0)&&decide (script_normal.p h.f4=h.f4)&&decide (0<chg h.f4)&&decide (((side h.f4 3).length:Int)=h.f1)&&decide (((side h.f4 2).length:Int)=h.f3)&&decide (h.f1≤400)&&decide (h.f3≤400)
theorem right_iff (h:S44):rightB h=true↔chk h.f4=0∧script_normal.p h.f4=h.f4∧0<chg h.f4∧((side h.f4 3).length:Int)=h.f1∧((side h.f4 2).length:Int)=h.f3∧h.f1≤400∧h.f3≤400:=by
  unfold rightB
  simp only [Bool.and_eq_true,decide_eq_true_eq,and_assoc]
def posB (a b:Int) (h:S44):Bool:=decide (0≤h.f0∧h.f0≤400)&&decide (0≤h.f2∧h.f2≤400)&&decide (a≤h.f0)&&decide (h.f0-a=h.f2-b)
theorem pos_iff (a b:Int) (h:S44):posB a b h=true↔(0≤h.f0∧h.f0≤400)∧(0≤h.f2∧h.f2≤400)∧a≤h.f0∧h.f0-a=h.f2-b:=by
  unfold posB
  simp only [Bool.and_eq_true,decide_eq_true_eq,and_assoc]
theorem far_pos (a b:Int) (h:S44):hunk_Check.far a b h.f0 h.f2= !posB a b h:=rfl
def chkA:List S44→Int→Int→Int
  | [],_,_=>0
  | h::t,a,b=>if (rightB h&&posB a b h)=true then chkA t (h.f0+h.f1) (h.f2+h.f3) else 3
def anyLim (l:List S44):Bool:=l.any fun h=>decide (chk h.f4=4)
def chkH (l:List S44):Int:=if 400<l.length then 4 else if anyLim l=true then 4 else chkA l 0 0
theorem within_ev (n:Int):hunk_within.f n=some (decide (0≤n∧n≤400)):=hunk_Check.within_eq n
theorem right_ev (h:S44) (hf:Fit h.f4):Ev (fun k=>hunk_right.f k h.f0 h.f1 h.f2 h.f3 h.f4) (rightB h):=by
  unfold hunk_right.f
  refine Ev.bind (nrm_ev _ hf) (Ev.bind (sides_ev _ hf) ?_)
  unfold nrm sds
  by_cases hc:chk h.f4=0
  · rw [if_pos hc,if_pos hc]
    obtain⟨h1,h2,h3⟩:=chk_zero.1 hc
    have hn:nl (script_normal.p h.f4)=nl h.f4:=p_nl _
    have hlen:=nf_len _ (p_nf h.f4 h3)
    have hfp:Fit (script_normal.p h.f4):=⟨by omega,fun x hx=>by
      have hx2:x.f1.length≤nl (script_normal.p h.f4):=by
        generalize script_normal.p h.f4=s at hx
        induction s with
        | nil=>cases hx
        | cons y t ih=>
          rw [nl_cons]
          rcases List.mem_cons.1 hx with rfl|hx
          · omega
          · have:=ih hx
            omega
      omega⟩
    refine ev_pos rfl (Ev.bind (eeq_ev _ _ hfp) ?_)
    by_cases e1:script_normal.p h.f4=h.f4
    · refine ev_pos (decide_eq_true e1) (Ev.bind (chg_ev (script_normal.p h.f4) (by omega) (by omega)) ?_)
      rw [e1]
      by_cases e2:0<chg h.f4
      · refine ev_pos (by omega) ?_
        by_cases e3:((side h.f4 3).length:Int)=h.f1
        · refine ev_pos e3 ?_
          by_cases e4:((side h.f4 2).length:Int)=h.f3
          · refine ev_pos e4 (ev_bind (within_ev _) ?_)
            by_cases e5:h.f1≤400
            · refine ev_pos (decide_eq_true ⟨by omega,e5⟩) (ev_bind (within_ev _) (ev_some ?_))
              unfold rightB
              rw [decide_eq_true hc,decide_eq_true e1,decide_eq_true e2,decide_eq_true e3,decide_eq_true e4,decide_eq_true e5]
              by_cases e6:h.f3≤400
              · rw [decide_eq_true e6,decide_eq_true ⟨by omega,e6⟩]
                rfl
              · rw [decide_eq_false e6,decide_eq_false (by omega)]
                rfl
            · refine ev_neg (by simp;omega) (ev_some ?_)
              unfold rightB
              rw [decide_eq_false e5]
              simp
          · refine ev_neg e4 (ev_some ?_)
            unfold rightB
            rw [decide_eq_false e4]
            simp
        · refine ev_neg e3 (ev_some ?_)
          unfold rightB
          rw [decide_eq_false e3]
          simp
      · refine ev_neg (by omega) (ev_some ?_)
        unfold rightB
        rw [decide_eq_false e2]
        simp
    · refine ev_neg (by rw [decide_eq_false e1];simp) (ev_some ?_)
      unfold rightB
      rw [decide_eq_false e1]
      simp
  · rw [if_neg hc,if_neg hc]
    refine ev_neg hc (ev_some ?_)
    unfold rightB
    rw [decide_eq_false hc]
    simp
theorem fitH_cons {h:S44} {t:List S44} (hf:FitH (h::t)):FitH t:=⟨Nat.le_trans (Nat.le_succ _) hf.1,fun x hx=>hf.2 x (List.mem_cons_of_mem _ hx)⟩
theorem has_ev: ∀(l:List S44),FitH l→Ev (fun k=>hunk_Check.has k l) (anyLim l)
  | [],_=>ev_some rfl
  | h::t,hf=>by
    simp only [hunk_Check.has]
    refine Ev.bind (chk_ev _ (hf.2 h (by simp))) ?_
    by_cases e:chk h.f4=4
    · refine ev_pos e (ev_some ?_)
      simp [anyLim,e]
    · refine ev_neg e (ev_cast (has_ev t (fitH_cons hf)) ?_)
      simp [anyLim,e]
theorem all_ev: ∀(l:List S44) (a b:Int),FitH l→0≤a→a≤800→0≤b→b≤800→Ev (fun k=>hunk_Check.all k l a b) (chkA l a b)
  | [],_,_,_,_,_,_,_=>ev_some rfl
  | h::t,a,b,hf,h1,h2,h3,h4=>by
    simp only [hunk_Check.all,chkA]
    refine ev_pos ⟨h1,h2,h3,h4⟩ (Ev.bind (right_ev h (hf.2 h (by simp))) ?_)
    by_cases e:rightB h=true
    · refine ev_neg (by rw [e];simp) ?_
      rw [far_pos]
      by_cases e2:posB a b h=true
      · obtain⟨_,_,_,h5,h6,h7,h8⟩:=(right_iff h).1 e
        obtain⟨h9,h10,_⟩:=(pos_iff a b h).1 e2
        refine ev_neg (by rw [e2];simp) (ev_pos (by omega) ?_)
        refine ev_cast (all_ev t _ _ (fitH_cons hf) (by omega) (by omega) (by omega) (by omega)) ?_
        rw [if_pos (by rw [e,e2];rfl)]
      · refine ev_pos (by simp [e2]) (ev_some ?_)
        rw [if_neg (by simp [e2])]
    · refine ev_pos (by simpa using e) (ev_some ?_)
      rw [if_neg (by simp [e])]
theorem hcheck_ev (l:List S44) (hf:FitH l):Ev (fun k=>hunk_Check.f k l) (chkH l):=by
  unfold hunk_Check.f chkH
  by_cases h:400<l.length
  · exact ev_pos h (ev_some (by rw [if_pos h]))
  · refine ev_neg h (Ev.bind (has_ev l hf) ?_)
    rw [if_neg h]
    by_cases e:anyLim l=true
    · exact ev_pos e (ev_some (by rw [if_pos e]))
    · refine ev_neg e ?_
      rw [if_neg e]
      exact all_ev l 0 0 hf (by omega) (by omega) (by omega) (by omega)
theorem rc_l0 (l:List S44) (hf:FitH l) (r:Int) (hr:anyLim l=false→Ev (fun k=>jalousieref09_Check.l1 k l 0) r): ∀(d i:Nat),i+d=l.length→anyLim (l.take i)=false→Ev (fun k=>jalousieref09_Check.l0 k l (i:Int)) (if anyLim l=true then 4 else r)
  | 0,i,h,hp=>by
    refine ev_succ ?_
    simp only [jalousieref09_Check.l0]
    have:=hf.1
    rw [List.take_of_length_le (by omega)] at hp
    (repeat(first|refine ev_pos (by omega) ?_|refine ev_neg (by omega) ?_))
    rw [if_neg (by rw [hp];simp)]
    exact hr hp
  | d+1,i,h,hp=>by
    have h1:=hf.1
    refine ev_succ ?_
    simp only [jalousieref09_Check.l0,rdH]
    (repeat(first|refine ev_pos (by omega) ?_|refine ev_neg (by omega) ?_))
    have hm:=getD_mem (l:=l) (i:=i) (by omega) z44
    refine Ev.bind (rchk_ev _ (hf.2 _ hm)) ?_
    by_cases e:chk (l.getD i z44).f4=4
    · refine ev_pos e (ev_some ?_)
      rw [if_pos]
      unfold anyLim
      rw [List.any_eq_true]
      exact⟨_,hm,decide_eq_true e⟩
    · refine ev_neg e ?_
      rw [w64s i (by omega)]
      refine rc_l0 l hf r hr d (i+1) (by omega) ?_
      rw [take_snoc l i (by omega) z44]
      unfold anyLim at hp ⊢
      rw [List.any_append,hp]
      simp only [List.any_cons,List.any_nil,decide_eq_false e,Bool.or_false]
end Go.Proofs.Ytfnbodjmmkjlcaa.H
namespace Go.Proofs.Ytfnbodjmmkjlcaa.H
open Go.RowKit Go.Proofs.YtfnbodjmmkjlcaaW.PrintWords Go.Proofs.YtfnbodjmmkjlcaaW.PrintLast Go.Proofs.YtfnbodjmmkjlcaaW.PrintMore
set_option linter.unusedVariables false
set_option linter.unusedSimpArgs false
theorem chk_elem (s:List S47) (h:nl s≤800): ∀x∈s,x.f1.length≤800:=by
  induction s with
  | nil=>intro x hx;cases hx
  | cons y t ih=>
    intro x hx
    rw [nl_cons] at h
    rcases List.mem_cons.1 hx with rfl|hx
    · omega
    · exact ih (by omega) x hx
end Go.Proofs.Ytfnbodjmmkjlcaa.H
namespace Go.Proofs.Ytfnbodjmmkjlcaa.H
open Go.RowKit Go.Proofs.YtfnbodjmmkjlcaaW.PrintWords Go.Proofs.YtfnbodjmmkjlcaaW.PrintLast Go.Proofs.YtfnbodjmmkjlcaaW.PrintMore
set_option linter.unusedVariables false
set_option linter.unusedSimpArgs false
end Go.Proofs.Ytfnbodjmmkjlcaa.H
namespace Go.Proofs.Ytfnbodjmmkjlcaa.H
open Go.RowKit Go.Proofs.YtfnbodjmmkjlcaaW.PrintWords Go.Proofs.YtfnbodjmmkjlcaaW.PrintLast Go.Proofs.YtfnbodjmmkjlcaaW.PrintMore
set_option linter.unusedVariables false
set_option linter.unusedSimpArgs false
theorem chkH_zero {l:List S44} (h:chkH l=0):l.length≤400∧anyLim l=false∧chkA l 0 0=0:=by
  unfold chkH at h
  by_cases h1:400<l.length
  · rw [if_pos h1] at h
    cases h
  rw [if_neg h1] at h
  by_cases h2:anyLim l=true
  · rw [if_pos h2] at h
    cases h
  rw [if_neg h2] at h
  exact⟨by omega,Bool.eq_false_iff.2 h2,h⟩
theorem nf_chk (n:List S47) (h:Nf n) (hl:nl n≤800):chk n=0:=chk_zero.2 ⟨Nat.le_trans (nf_len n h) hl,hl,nf_allok n h⟩
def pA:List Int→Nat→Nat→List S64
  | [],_,_=> []
  | d::t,i,j=>(if d=1 then [(⟨(i:Int),(j:Int)⟩:S64)] else [])++pA t (if d=3 then i else i+1) (if d=2 then j else j+1)
theorem pA_len: ∀(u:List Int) (i j:Nat),(pA u i j).length≤u.length
  | [],_,_=>Nat.le_refl _
  | d::t,i,j=>by
    have:=pA_len t (if d=3 then i else i+1) (if d=2 then j else j+1)
    rw [pA,List.length_append,List.length_cons]
    generalize pA t _ _=q at this
    split<;>simp<;>omega
end Go.Proofs.Ytfnbodjmmkjlcaa.H
namespace Go.Proofs.Ytfnbodjmmkjlcaa.H
open Go.RowKit Go.Proofs.YtfnbodjmmkjlcaaW.PrintWords Go.Proofs.YtfnbodjmmkjlcaaW.PrintLast Go.Proofs.YtfnbodjmmkjlcaaW.PrintMore
set_option linter.unusedVariables false
set_option linter.unusedSimpArgs false
theorem live11_ev:Ev (fun k=>jalousielaw11_live.f k) true:=by
  refine Ev.of (fun k=>jalousielaw11_live.mono k) (k:=40) ?_
  decide+kernel
theorem min_ev (n c:Nat):mn (n:Int) (c:Int)=((min n c:Nat):Int):=by
  unfold mn
  split<;>omega
end Go.Proofs.Ytfnbodjmmkjlcaa.H
namespace Go.Proofs.Ytfnbodjmmkjlcaa.H
open Go.RowKit Go.Proofs.YtfnbodjmmkjlcaaW.PrintWords Go.Proofs.YtfnbodjmmkjlcaaW.PrintLast Go.Proofs.YtfnbodjmmkjlcaaW.PrintMore
set_option linter.unusedVariables false
set_option linter.unusedSimpArgs false
theorem chg_good {x:S47} (h:good x) (h1:x.f0≠1):0<chg [x]:=by
  have:=List.length_pos_iff.2 h.2
  rw [chg_cons,if_pos (by have:=h.1;omega)]
  omega
theorem nl_sides (s:List S47):nl s≤(side s 3).length+(side s 2).length:=by
  induction s with
  | nil=>simp [nl]
  | cons x t ih=>
    rw [nl_cons,side_cons,side_cons,List.length_append,List.length_append]
    by_cases h3:x.f0=3
    · rw [if_pos h3,if_neg (by omega)]
      simp
      omega
    · rw [if_neg h3]
      omega
theorem mk_right (a0 b0:Nat) (now:List S47) (hn:Nf now) (h3:(side now 3).length≤400) (h2:(side now 2).length≤400) (hc:0<chg now):rightB (mkH a0 b0 now)=true:=by
  rw [right_iff]
  have h:=nl_sides now
  exact⟨good_chk now (by omega) (nf_good _ hn),p_id _ hn,hc,rfl,rfl,by show((side now 3).length:Int)≤400;omega,by show((side now 2).length:Int)≤400;omega⟩
def bOk (c:Nat) (n:List S47) (a b:Nat) (cur:Option (Nat×Nat×List S47)) (ah:List S66) (x y:Nat):Prop:=match cur with
  | none=>Nf (hunk_Build.lead c ah++n)∧(n≠ []→x+min c ah.length≤a∧y+min c ah.length≤b∧(a:Int)-x=b-y)∧ah.length≤a∧ah.length≤b∧(∀z∈n.head?,z.f0=1→a=0∧b=0∧x=0∧y=0∧ah= [])
  | some (a0,b0,now)=>Nf (now++n)∧0<chg now∧a=a0+(side now 3).length∧b=b0+(side now 2).length∧x≤a0∧y≤b0∧(a0:Int)-x=b0-y
theorem ad_sum (x:S47):ad3 x+nl []≤x.f1.length∧ad2 x≤x.f1.length:=by
  unfold ad3 ad2
  rw [nl_nil]
  constructor<;>split<;>omega
theorem side_now (now:List S47) (x:S47):(side (now++ [x]) 3).length=(side now 3).length+ad3 x∧(side (now++ [x]) 2).length=(side now 2).length+ad2 x:=⟨side_one now x.f0 x.f1 3,side_one now x.f0 x.f1 2⟩
theorem trail_side (c:Nat) (l:List S66) (b:Int) (hb:b≠1):(side (hunk_Build.trail c l) b).length=min c l.length:=by
  unfold hunk_Build.trail
  split
  · rw [side_cons,if_neg (fun e=>hb e.symm)]
    simp [side]
  · simp [side]
    omega
theorem bld_chk (c:Nat): ∀(n:List S47) (a b:Nat) (cur:Option (Nat×Nat×List S47)) (ah:List S66) (x y:Nat),Nf n→bOk c n a b cur ah x y→a+nl n≤400→b+nl n≤400→chkA (bld c n a b cur ah) x y=0
  | [],a,b,none,ah,x,y,hn,hk,ha,hb=>rfl
  | [],a,b,some (a0,b0,now),ah,x,y,hn,hk,ha,hb=>by
    obtain⟨h1,h2,h3,h4,h5,h6,h7⟩:=hk
    rw [List.append_nil] at h1
    simp only [bld]
    rw [chkA,if_pos]
    · rfl
    · rw [mk_right a0 b0 now h1 (by omega) (by omega) h2,Bool.true_and,pos_iff]
      simp only [mkH]
      omega
  | z::xs,a,b,none,ah,x,y,hn,hk,ha,hb=>by
    obtain⟨h1,h2,h3,h4,h5⟩:=hk
    obtain⟨h6,h7,h8⟩:=h2 (by simp)
    rw [nl_cons] at ha hb
    simp only [bld]
    have had:=ad_sum z
    by_cases e1:z.f0=1
    · rw [if_pos e1]
      obtain⟨rfl,rfl,rfl,rfl,rfl⟩:=h5 z (by simp) e1
      have e3:ad3 z=z.f1.length:=by unfold ad3;rw [if_neg (by omega)]
      have e2:ad2 z=z.f1.length:=by unfold ad2;rw [if_neg (by omega)]
      rw [e3,e2]
      refine bld_chk c xs _ _ none z.f1 0 0 hn.2.2 ⟨nf_lead c xs z hn e1,fun _=>⟨by omega,by omega,by omega⟩,by omega,by omega,fun w hw hw1=>?_⟩ (by omega) (by omega)
      have:=hn.2.1 w hw
      simp [adj,e1,hw1] at this
    · rw [if_neg e1]
      have hs:=side_now (hunk_Build.lead c ah) z
      have hs3:=lead_side c ah 3 (by omega)
      have hs2:=lead_side c ah 2 (by omega)
      refine bld_chk c xs _ _ (some (a-min c ah.length,b-min c ah.length,hunk_Build.lead c ah++ [z])) [] x y hn.2.2 ⟨by simpa using h1,?_,by rw [hs.1,hs3];omega,by rw [hs.2,hs2];omega,by omega,by omega,by omega⟩ (by omega) (by omega)
      rw [chg_append]
      have:=chg_good hn.1 e1
      omega
  | z::xs,a,b,some (a0,b0,now),ah,x,y,hn,hk,ha,hb=>by
    obtain⟨h1,h2,h3,h4,h5,h6,h7⟩:=hk
    rw [nl_cons] at ha hb
    simp only [bld]
    have had:=ad_sum z
    have hgo:chkA (bld c xs (a+ad3 z) (b+ad2 z) (some (a0,b0,now++ [z])) ah) x y=0:=by
      have hs:=side_now now z
      refine bld_chk c xs _ _ (some (a0,b0,now++ [z])) ah x y hn.2.2 ⟨by simpa using h1,by rw [chg_append];omega,by rw [hs.1];omega,by rw [hs.2];omega,h5,h6,h7⟩ (by omega) (by omega)
    by_cases e1:z.f0=1
    · rw [if_pos e1]
      have e3:ad3 z=z.f1.length:=by unfold ad3;rw [if_neg (by omega)]
      have e2:ad2 z=z.f1.length:=by unfold ad2;rw [if_neg (by omega)]
      by_cases hl:xs.isEmpty=true∨2*c<z.f1.length
      · rw [if_pos hl]
        have ht3:=trail_side c z.f1 3 (by omega)
        have ht2:=trail_side c z.f1 2 (by omega)
        have hl3:(side (now++hunk_Build.trail c z.f1) 3).length=(side now 3).length+min c z.f1.length:=by rw [side_append,List.length_append,ht3]
        have hl2:(side (now++hunk_Build.trail c z.f1) 2).length=(side now 2).length+min c z.f1.length:=by rw [side_append,List.length_append,ht2]
        rw [chkA,if_pos]
        · have f1:(mkH a0 b0 (now++hunk_Build.trail c z.f1)).f0+(mkH a0 b0 (now++hunk_Build.trail c z.f1)).f1=((a+min c z.f1.length:Nat):Int):=by
            simp only [mkH]
            omega
          have f2:(mkH a0 b0 (now++hunk_Build.trail c z.f1)).f2+(mkH a0 b0 (now++hunk_Build.trail c z.f1)).f3=((b+min c z.f1.length:Nat):Int):=by
            simp only [mkH]
            omega
          rw [f1,f2,e3,e2]
          refine bld_chk c xs _ _ none z.f1 _ _ hn.2.2 ⟨nf_lead c xs z hn e1,fun hxs=>?_,by omega,by omega,fun w hw hw1=>?_⟩ (by omega) (by omega)
          · have:2*c<z.f1.length:=hl.resolve_left (by simpa using hxs)
            exact⟨by omega,by omega,by omega⟩
          · have:=hn.2.1 w hw
            simp [adj,e1,hw1] at this
        · rw [mk_right a0 b0 _ (nf_trail c now xs z h1 e1) (by omega) (by omega) (by rw [chg_append];omega),Bool.true_and,pos_iff]
          simp only [mkH]
          omega
      · rw [if_neg hl]
        exact hgo
    · rw [if_neg e1]
      exact hgo
theorem hnk_ok (c:Nat) (n:List S47) (hn:Nf n):bOk c n 0 0 none [] 0 0:=by
  refine⟨?_,fun _=>⟨by simp,by simp,rfl⟩,by simp,by simp,fun _ _ _=>⟨rfl,rfl,rfl,rfl,rfl⟩⟩
  unfold hunk_Build.lead
  rw [if_neg (by simp)]
  exact hn
theorem hnk_lim (c:Nat) (n:List S47) (hn:Nf n) (hl:nl n≤400):anyLim (hnk c n)=false:=by
  unfold anyLim
  rw [Bool.eq_false_iff]
  intro h
  rw [List.any_eq_true] at h
  obtain⟨x,hx,h⟩:=h
  obtain⟨h1,h2⟩:=hnk_nf c n hn (by omega) x hx
  have:=of_decide_eq_true h
  rw [good_chk _ h2 (nf_good _ h1)] at this
  cases this
theorem hnk_chk (c:Nat) (n:List S47) (hn:Nf n) (hl:nl n≤400):chkH (hnk c n)=0:=by
  unfold chkH
  have h1:=bld_len c n 0 0 none []
  have h2:=nf_len n hn
  rw [if_neg (by show ¬400<(bld c n 0 0 none []).length;simp at h1;omega),hnk_lim c n hn hl,if_neg (by simp)]
  exact bld_chk c n 0 0 none [] 0 0 hn (hnk_ok c n hn) (by omega) (by omega)
end Go.Proofs.Ytfnbodjmmkjlcaa.H
namespace Go.Proofs.Ytfnbodjmmkjlcaa.H
open Go.RowKit Go.Proofs.YtfnbodjmmkjlcaaW.PrintWords Go.Proofs.YtfnbodjmmkjlcaaW.PrintLast Go.Proofs.YtfnbodjmmkjlcaaW.PrintMore
set_option linter.unusedVariables false
set_option linter.unusedSimpArgs false
theorem joins_size: ∀(l:List S44),(∀h∈l,h.f4.length≤800∧nl h.f4≤800)→(joins l).length≤800*l.length∧nl (joins l)≤800*l.length
  | [],_=>⟨Nat.le_refl _,Nat.le_refl _⟩
  | h::t,hh=>by
    obtain⟨h1,h2⟩:=joins_size t fun x hx=>hh x (List.mem_cons_of_mem _ hx)
    obtain⟨h3,h4⟩:=hh h (by simp)
    rw [joins_cons,List.length_append,nl_append,List.length_cons]
    omega
end Go.Proofs.Ytfnbodjmmkjlcaa.H
namespace Go.Proofs.Ytfnbodjmmkjlcaa.H
open Go.RowKit Go.Proofs.YtfnbodjmmkjlcaaW.PrintWords Go.Proofs.YtfnbodjmmkjlcaaW.PrintLast Go.Proofs.YtfnbodjmmkjlcaaW.PrintMore
set_option linter.unusedVariables false
set_option linter.unusedSimpArgs false
def flp (x:S47):S47:=⟨if x.f0=2 then 3 else if x.f0=3 then 2 else x.f0,x.f1⟩
theorem flp_nl (s:List S47):nl (s.map flp)=nl s:=by
  induction s with
  | nil=>rfl
  | cons x t ih=>rw [List.map_cons,nl_cons,nl_cons,ih];rfl
theorem flp_2 {x:S47} (h:x.f0=2):(flp x).f0=3:=if_pos h
theorem flp_3 {x:S47} (h:x.f0=3):(flp x).f0=2:=(if_neg (show ¬x.f0=2 by omega)).trans (if_pos h)
theorem flp_1 {x:S47} (h2:x.f0≠2) (h3:x.f0≠3):(flp x).f0=x.f0:=(if_neg h2).trans (if_neg h3)
theorem flp_f1 (x:S47):(flp x).f1=x.f1:=rfl
theorem flp_side3 (s:List S47):side (s.map flp) 3=side s 2:=by
  induction s with
  | nil=>rfl
  | cons x t ih=>
    rw [List.map_cons,side_cons,side_cons,ih,flp_f1]
    congr 1
    by_cases h2:x.f0=2
    · rw [flp_2 h2,if_pos rfl,if_pos h2]
    · by_cases h3:x.f0=3
      · rw [flp_3 h3,if_neg (by omega),if_neg (by omega)]
      · rw [flp_1 h2 h3,if_neg h3,if_neg h2]
theorem flp_side2 (s:List S47):side (s.map flp) 2=side s 3:=by
  induction s with
  | nil=>rfl
  | cons x t ih=>
    rw [List.map_cons,side_cons,side_cons,ih,flp_f1]
    congr 1
    by_cases h2:x.f0=2
    · rw [flp_2 h2,if_neg (by omega),if_neg (by omega)]
    · by_cases h3:x.f0=3
      · rw [flp_3 h3,if_pos rfl,if_pos h3]
      · rw [flp_1 h2 h3,if_neg h3,if_neg h2]
def inv (s:List S47):List S47×Int:=if chk s=0 then (script_normal.p (s.map flp),0) else ([],chk s)
theorem inv_l0 (s:List S47) (hl:s.length≤800) (hn:nl s≤800): ∀(d i:Nat) (out:List S47),i+d=s.length→out=(s.take i).map flp→Ev (fun k=>script_Invert.l0 k out s (s.length:Int) (i:Int)) (script_normal.p (s.map flp),0)
  | 0,i,out,h,ho=>by
    rw [List.take_of_length_le (by omega)] at ho
    subst ho
    refine ev_succ ?_
    simp only [script_Invert.l0,script_normal.f]
    rw [nl_lines,flp_nl,List.length_map,if_pos ⟨by omega,by omega⟩]
    refine ev_neg (by omega) ?_
    exact ev_some rfl
  | d+1,i,out,h,ho=>by
    have hlen:out.length<4398046511104:=by
      rw [ho,List.length_map,List.length_take]
      omega
    have hs:=take_snoc s i (by omega) z47
    refine ev_succ ?_
    simp only [script_Invert.l0,rdE]
    rw [w64s i (by omega)]
    refine ev_pos (by omega) (ev_pos (by omega) (ev_pos (by omega) ?_))
    have hgo: ∀y:S47,y=flp (s.getD i z47)→out++ [y]=(s.take (i+1)).map flp:=by
      intro y hy
      rw [hs,List.map_append, ← ho,hy]
      rfl
    by_cases h2:(s.getD i z47).f0=2
    · refine ev_pos h2 (ev_pos hlen ?_)
      exact inv_l0 s hl hn d (i+1) _ (by omega) (hgo _ (by unfold flp;rw [if_pos h2]))
    · by_cases h3:(s.getD i z47).f0=3
      · refine ev_neg h2 (ev_pos h3 (ev_pos hlen ?_))
        exact inv_l0 s hl hn d (i+1) _ (by omega) (hgo _ (by unfold flp;rw [if_neg h2,if_pos h3]))
      · refine ev_neg h2 (ev_neg h3 (ev_pos hlen ?_))
        exact inv_l0 s hl hn d (i+1) _ (by omega) (hgo _ (by unfold flp;rw [if_neg h2,if_neg h3]))
theorem inv_ev (s:List S47) (hf:Fit s):Ev (fun k=>script_Invert.f k s) (inv s):=by
  unfold script_Invert.f inv
  refine Ev.bind (chk_ev s hf) ?_
  by_cases h:chk s=0
  · rw [if_pos h]
    obtain⟨c1,c2,c3⟩:=chk_zero.1 h
    exact ev_pos h (inv_l0 s c1 c2 s.length 0 [] (by omega) (by simp))
  · rw [if_neg h]
    exact ev_neg h (ev_some rfl)
def revh (h:S44):S44:=⟨h.f2,h.f3,h.f0,h.f1,(inv h.f4).1⟩
def rev (l:List S44):List S44×Int:=if chkH l=0 then (l.map revh,0) else ([],chkH l)
theorem rev_l0 (l:List S44) (hf:FitH l) (hl:l.length≤400): ∀(d i:Nat) (out:List S44),i+d=l.length→out=(l.take i).map revh→Ev (fun k=>patch_Reverse.l0 k out l (l.length:Int) (i:Int)) (l.map revh,0)
  | 0,i,out,h,ho=>by
    rw [List.take_of_length_le (by omega)] at ho
    subst ho
    refine ev_succ ?_
    simp only [patch_Reverse.l0]
    exact ev_neg (by omega) (ev_some rfl)
  | d+1,i,out,h,ho=>by
    have hlen:out.length<2513169434916:=by
      rw [ho,List.length_map,List.length_take]
      omega
    have hm:=hf.2 _ (getD_mem (l:=l) (i:=i) (by omega) z44)
    refine ev_succ ?_
    simp only [patch_Reverse.l0,rdH]
    rw [w64s i (by omega)]
    refine ev_pos (by omega) (ev_pos (by omega) (ev_pos (by omega) (Ev.bind (inv_ev _ hm) (ev_pos hlen ?_))))
    refine rev_l0 l hf hl d (i+1) _ (by omega) ?_
    rw [take_snoc l i (by omega) z44,List.map_append, ← ho]
    rfl
theorem rev_ev (l:List S44) (hf:FitH l):Ev (fun k=>patch_Reverse.f k l) (rev l):=by
  unfold patch_Reverse.f rev
  refine Ev.bind (hcheck_ev l hf) ?_
  by_cases h:chkH l=0
  · rw [if_pos h]
    exact ev_pos h (rev_l0 l hf (chkH_zero h).1 l.length 0 [] (by omega) (by simp))
  · rw [if_neg h]
    exact ev_neg h (ev_some rfl)
def ofk (d:Int) (s:List S47):Nat:=(s.map fun x=>if x.f0=d then x.f1.length else 0).sum
theorem ofk_cons (d:Int) (x:S47) (s:List S47):ofk d (x::s)=(if x.f0=d then x.f1.length else 0)+ofk d s:=by simp [ofk]
theorem ofk_append (d:Int) (s t:List S47):ofk d (s++t)=ofk d s+ofk d t:=by simp [ofk]
theorem ofk_le (d:Int) (s:List S47):ofk d s≤nl s:=by
  induction s with
  | nil=>exact Nat.le_refl _
  | cons x t ih=>
    rw [ofk_cons,nl_cons]
    split<;>omega
theorem size_l1 (l:List S44) (i:Nat) (s:List S47) (hs:s.length≤1000000000000000000) (r:Int×Int): ∀(d j m g:Nat),j+d=s.length→m+nl (s.drop j)≤1000000000000000000→g+nl (s.drop j)≤1000000000000000000→
    Ev (fun k=>patch_Size.l0 k ((m+ofk 3 (s.drop j):Nat):Int) ((g+ofk 2 (s.drop j):Nat):Int) l (l.length:Int) (wrap64 ((i:Int)+1))) r→
    Ev (fun k=>patch_Size.l1 k (m:Int) (g:Int) l (l.length:Int) (i:Int) s (s.length:Int) (j:Int)) r
  | 0,j,m,g,h,h1,h2,hr=>by
    rw [List.drop_of_length_le (by omega)] at hr
    refine ev_succ ?_
    simp only [patch_Size.l1]
    exact ev_neg (by omega) hr
  | d+1,j,m,g,h,h1,h2,hr=>by
    rw [drop_cons s j (by omega) z47] at hr h1 h2
    rw [nl_cons] at h1 h2
    rw [ofk_cons,ofk_cons] at hr
    refine ev_succ ?_
    simp only [patch_Size.l1,rdE]
    rw [w64s j (by omega)]
    generalize s.getD j z47=x at hr h1 h2
    refine ev_pos (by omega) (ev_pos (by omega) (ev_pos (by omega) ?_))
    by_cases h3:x.f0=3
    · refine ev_pos h3 ?_
      rw [show wrap64 ((m:Int)+(x.f1.length:Int))=((m+x.f1.length:Nat):Int) by rw [w64i _ (by omega) (by omega)];omega]
      refine size_l1 l i s hs r d (j+1) (m+x.f1.length) g (by omega) (by omega) (by omega) ?_
      rw [if_pos h3,if_neg (by omega),Nat.zero_add, ← Nat.add_assoc] at hr
      exact hr
    · by_cases h4:x.f0=2
      · refine ev_neg h3 (ev_pos h4 ?_)
        rw [show wrap64 ((g:Int)+(x.f1.length:Int))=((g+x.f1.length:Nat):Int) by rw [w64i _ (by omega) (by omega)];omega]
        refine size_l1 l i s hs r d (j+1) m (g+x.f1.length) (by omega) (by omega) (by omega) ?_
        rw [if_neg h3,if_pos h4,Nat.zero_add, ← Nat.add_assoc] at hr
        exact hr
      · refine ev_neg h3 (ev_neg h4 ?_)
        refine size_l1 l i s hs r d (j+1) m g (by omega) (by omega) (by omega) ?_
        rw [if_neg h3,if_neg h4,Nat.zero_add,Nat.zero_add] at hr
        exact hr
theorem size_l0 (l:List S44) (hl:l.length≤1000000000000000000) (hs: ∀h∈l,h.f4.length≤1000000000000000000): ∀(d i m g:Nat),i+d=l.length→m+nl (joins (l.drop i))≤1000000000000000000→g+nl (joins (l.drop i))≤1000000000000000000→
    Ev (fun k=>patch_Size.l0 k (m:Int) (g:Int) l (l.length:Int) (i:Int)) (((m+ofk 3 (joins (l.drop i)):Nat):Int),((g+ofk 2 (joins (l.drop i)):Nat):Int))
  | 0,i,m,g,h,h1,h2=>by
    rw [List.drop_of_length_le (by omega)]
    refine ev_succ ?_
    simp only [patch_Size.l0]
    exact ev_neg (by omega) (ev_some rfl)
  | d+1,i,m,g,h,h1,h2=>by
    have hm:=hs _ (getD_mem (l:=l) (i:=i) (by omega) z44)
    rw [drop_cons l i (by omega) z44] at h1 h2 ⊢
    rw [joins_cons,nl_append] at h1 h2
    rw [joins_cons,ofk_append,ofk_append]
    refine ev_succ ?_
    simp only [patch_Size.l0,rdH]
    generalize l.getD i z44=x at h1 h2 hm
    refine ev_pos (by omega) (ev_pos (by omega) (ev_pos (by omega) ?_))
    have k3:=ofk_le 3 x.f4
    have k2:=ofk_le 2 x.f4
    refine size_l1 l i x.f4 hm _ x.f4.length 0 m g (by omega) (by rw [List.drop_zero];omega) (by rw [List.drop_zero];omega) ?_
    rw [List.drop_zero,w64s i (by omega)]
    refine ev_cast (size_l0 l hl hs d (i+1) (m+ofk 3 x.f4) (g+ofk 2 x.f4) (by omega) (by omega) (by omega)) ?_
    rw [Nat.add_assoc,Nat.add_assoc]
theorem size_ev (l:List S44) (hl:l.length≤1000000000000000000) (hs: ∀h∈l,h.f4.length≤1000000000000000000) (hn:nl (joins l)≤1000000000000000000):Ev (fun k=>patch_Size.f k l) ((ofk 3 (joins l):Nat),(ofk 2 (joins l):Nat)):=by
  unfold patch_Size.f
  refine ev_cast (size_l0 l hl hs l.length 0 0 0 (by omega) (by rw [List.drop_zero];omega) (by rw [List.drop_zero];omega)) ?_
  simp
end Go.Proofs.Ytfnbodjmmkjlcaa.H
namespace Go.Proofs.Ytfnbodjmmkjlcaa.H
open Go.RowKit Go.Proofs.YtfnbodjmmkjlcaaW.PrintWords Go.Proofs.YtfnbodjmmkjlcaaW.PrintLast Go.Proofs.YtfnbodjmmkjlcaaW.PrintMore
set_option linter.unusedVariables false
set_option linter.unusedSimpArgs false
def swp:List S47→List S47
  | []=> []
  | [x]=> [flp x]
  | x::y::t=>if x.f0=2∧y.f0=3 then ⟨2,y.f1⟩::⟨3,x.f1⟩::swp t else flp x::swp (y::t)
theorem swp_one (x:S47) (t:List S47) (h: ∀y∈t.head?,¬(x.f0=2∧y.f0=3)):swp (x::t)=flp x::swp t:=by
  cases t with
  | nil=>rfl
  | cons y u=>
    rw [swp,if_neg (h y rfl)]
theorem swp_two (x y:S47) (t:List S47) (hx:x.f0=2) (hy:y.f0=3):swp (x::y::t)=⟨2,y.f1⟩::⟨3,x.f1⟩::swp t:=by
  rw [swp,if_pos ⟨hx,hy⟩]
theorem swp_fold: ∀(u:List S47) (q:List S47×List S66),(swp u).foldl script_normal.take q=(u.map flp).foldl script_normal.take q
  | [],q=>rfl
  | [x],q=>rfl
  | x::y::t,q=>by
    by_cases h:x.f0=2∧y.f0=3
    · obtain⟨s,w⟩:=q
      rw [swp_two x y t h.1 h.2,List.map_cons,List.map_cons,List.foldl_cons,List.foldl_cons,List.foldl_cons,List.foldl_cons,swp_fold t]
      congr 1
      rw [take_out (x:=⟨2,y.f1⟩) rfl,take_in (x:=⟨3,x.f1⟩) rfl,take_in (x:=flp x) (flp_2 h.1),take_out (x:=flp y) (flp_3 h.2)]
      rfl
    · rw [swp_one x (y::t) (fun z hz=>by simp at hz;subst hz;exact h),List.foldl_cons,swp_fold (y::t)]
      rfl
theorem swp_p (u:List S47):script_normal.p (swp u)=script_normal.p (u.map flp):=by
  unfold script_normal.p script_normal.all
  rw [swp_fold]
theorem swp_side3: ∀u:List S47,side (swp u) 3=side u 2
  | []=>rfl
  | [x]=>flp_side3 [x]
  | x::y::t=>by
    by_cases h:x.f0=2∧y.f0=3
    · rw [swp_two x y t h.1 h.2]
      simp only [side_cons,swp_side3 t]
      simp [h.1,h.2]
    · rw [swp_one x (y::t) (fun z hz=>by simp at hz;subst hz;exact h),side_cons,swp_side3 (y::t)]
      have:=flp_side3 [x]
      rw [side_cons (s:=y::t)] at*
      rw [List.map_cons,side_cons,side_cons] at this
      simp only [List.map_nil,show side ([]:List S47) 3= [] from rfl,show side ([]:List S47) 2= [] from rfl,List.append_nil] at this
      rw [this]
theorem swp_side2: ∀u:List S47,side (swp u) 2=side u 3
  | []=>rfl
  | [x]=>flp_side2 [x]
  | x::y::t=>by
    by_cases h:x.f0=2∧y.f0=3
    · rw [swp_two x y t h.1 h.2]
      simp only [side_cons,swp_side2 t]
      simp [h.1,h.2]
    · rw [swp_one x (y::t) (fun z hz=>by simp at hz;subst hz;exact h),side_cons,swp_side2 (y::t)]
      have:=flp_side2 [x]
      rw [side_cons (s:=y::t)] at*
      rw [List.map_cons,side_cons,side_cons] at this
      simp only [List.map_nil,show side ([]:List S47) 3= [] from rfl,show side ([]:List S47) 2= [] from rfl,List.append_nil] at this
      rw [this]
theorem swp_nl: ∀u:List S47,nl (swp u)=nl u
  | []=>rfl
  | [x]=>flp_nl [x]
  | x::y::t=>by
    by_cases h:x.f0=2∧y.f0=3
    · rw [swp_two x y t h.1 h.2]
      simp only [nl_cons,swp_nl t]
      omega
    · rw [swp_one x (y::t) (fun z hz=>by simp at hz;subst hz;exact h),nl_cons,swp_nl (y::t),nl_cons (x:=x),flp_f1]
theorem swp_nil (u:List S47):(swp u).isEmpty=u.isEmpty:=by
  match u with
  | []=>rfl
  | [x]=>rfl
  | x::y::t=>
    rw [swp]
    split<;>rfl
theorem swp_head (x:S47) (t:List S47): ∃z r,swp (x::t)=z::r∧(x.f0=1→z.f0=1)∧(x.f0=2∨x.f0=3→z.f0=2∨z.f0=3):=by
  by_cases h: ∃y u,t=y::u∧x.f0=2∧y.f0=3
  · obtain⟨y,u,rfl,h1,h2⟩:=h
    refine⟨_,_,swp_two x y u h1 h2,fun h=>by omega,fun _=> .inl rfl⟩
  · refine⟨_,_,swp_one x t (fun y hy e=>?_),fun h1=>?_,fun h23=>?_⟩
    · cases t with
      | nil=>cases hy
      | cons z u=>
        simp at hy
        subst hy
        exact h ⟨_,_,rfl,e⟩
    · rw [flp_1 (by omega) (by omega)]
      exact h1
    · rcases h23 with h2|h3
      · exact .inr (flp_2 h2)
      · exact .inl (flp_3 h3)
theorem flp_good {x:S47} (h:good x):good (flp x):=by
  refine⟨?_,h.2⟩
  rcases h.1 with h1|h2|h3
  · exact .inl (by rw [flp_1 (by omega) (by omega)];exact h1)
  · exact .inr (.inr (flp_2 h2))
  · exact .inr (.inl (flp_3 h3))
theorem nf_cons {x:S47} {t:List S47} (h1:good x) (h2: ∀y∈t.head?,adj x.f0 y.f0) (h3:Nf t):Nf (x::t):=⟨h1,h2,h3⟩
theorem swp_adj {d:Int} {t:List S47} (hd:d=2∨d=3) (h: ∀y∈t.head?,y.f0=1): ∀z∈(swp t).head?,adj d z.f0:=by
  cases t with
  | nil=>intro z hz;cases hz
  | cons x u=>
    obtain⟨z,r,e,h1,_⟩:=swp_head x u
    rw [e]
    intro y hy
    simp at hy
    subst hy
    have:=h1 (h x rfl)
    unfold adj
    omega
theorem swp_nf: ∀u:List S47,Nf u→Nf (swp u)
  | [],_=>trivial
  | [x],h=>nf_cons (flp_good h.1) (fun y hy=>by simp at hy) trivial
  | x::y::t,h=>by
    have hxy:=h.2.1 y rfl
    by_cases hc:x.f0=2∧y.f0=3
    · rw [swp_two x y t hc.1 hc.2]
      have ht: ∀z∈t.head?,z.f0=1:=fun z hz=>by
        have:=h.2.2.2.1 z hz
        unfold adj at this
        omega
      refine nf_cons ⟨.inr (.inl rfl),h.2.2.1.2⟩ (fun z hz=>?_) (nf_cons ⟨.inr (.inr rfl),h.1.2⟩ (swp_adj (.inr rfl) ht) (swp_nf t h.2.2.2.2))
      simp at hz
      subst hz
      exact .inr (.inl ⟨rfl, .inr rfl⟩)
    · rw [swp_one x (y::t) (fun z hz=>by simp at hz;subst hz;exact hc)]
      refine nf_cons (flp_good h.1) ?_ (swp_nf (y::t) h.2.2)
      rcases h.1.1 with h1|h2|h3
      · obtain⟨z,r,e,_,h23⟩:=swp_head y t
        rw [e]
        intro w hw
        simp at hw
        subst hw
        have:=h23 (by unfold adj at hxy;omega)
        rw [flp_1 (by omega) (by omega)]
        unfold adj
        omega
      · refine swp_adj (.inr (flp_2 h2)) (fun z hz=>?_)
        simp at hz
        subst hz
        unfold adj at hxy
        omega
      · refine swp_adj (.inl (flp_3 h3)) (fun z hz=>?_)
        simp at hz
        subst hz
        unfold adj at hxy
        omega
theorem inv_nf (u:List S47) (h:Nf u):script_normal.p (u.map flp)=swp u:=by
  rw [← swp_p,p_id _ (swp_nf u h)]
theorem flp_flp (x:S47):flp (flp x)=x:=by
  by_cases h2:x.f0=2
  · cases x
    simp only at h2
    subst h2
    rfl
  · by_cases h3:x.f0=3
    · cases x
      simp only at h3
      subst h3
      rfl
    · show({ f0:=(flp (flp x)).f0,f1:=x.f1 }:S47)=x
      rw [flp_1 (x:=flp x) (by rw [flp_1 h2 h3];exact h2) (by rw [flp_1 h2 h3];exact h3),flp_1 h2 h3]
theorem swp_swp: ∀u:List S47,Nf u→swp (swp u)=u
  | [],_=>rfl
  | [x],_=>by
    show [flp (flp x)]= [x]
    rw [flp_flp]
  | x::y::t,h=>by
    have hxy:=h.2.1 y rfl
    by_cases hc:x.f0=2∧y.f0=3
    · rw [swp_two x y t hc.1 hc.2,swp_two _ _ _ rfl rfl,swp_swp t h.2.2.2.2]
      obtain⟨c1,c2⟩:=hc
      cases x
      cases y
      simp only at c1 c2
      subst c1 c2
      rfl
    · rw [swp_one x (y::t) (fun z hz=>by simp at hz;subst hz;exact hc),swp_one (flp x),flp_flp,swp_swp (y::t) h.2.2]
      rintro z hz ⟨e1,e2⟩
      have h3:x.f0=3:=by
        rcases h.1.1 with h1|h2|h3
        · rw [flp_1 (by omega) (by omega)] at e1
          omega
        · rw [flp_2 h2] at e1
          omega
        · exact h3
      obtain⟨w,r,e,h1,_⟩:=swp_head y t
      rw [e] at hz
      simp at hz
      subst hz
      have:=h1 (by unfold adj at hxy;omega)
      omega
theorem swp_app: ∀(u v:List S47),(∀x∈u.getLast?, ∀y∈v.head?,¬(x.f0=2∧y.f0=3))→swp (u++v)=swp u++swp v
  | [],v,_=>rfl
  | [x],v,h=>by
    rw [List.singleton_append,swp_one x v (fun y hy=>h x rfl y hy)]
    rfl
  | x::y::t,v,h=>by
    by_cases hc:x.f0=2∧y.f0=3
    · rw [swp_two x y t hc.1 hc.2,List.cons_append,List.cons_append,swp_two x y _ hc.1 hc.2,swp_app t v]
      · rfl
      · intro a ha
        refine h a ?_
        cases t with
        | nil=>cases ha
        | cons b s=>simpa using ha
    · rw [swp_one x (y::t) (fun z hz=>by simp at hz;subst hz;exact hc),List.cons_append,swp_one x (y::t++v) (fun z hz=>by simp at hz;subst hz;exact hc),swp_app (y::t) v]
      · rfl
      · intro a ha
        exact h a (by simpa using ha)
def revS (h:S44):S44:=⟨h.f2,h.f3,h.f0,h.f1,swp h.f4⟩
theorem revS_mk (a b:Nat) (u:List S47):revS (mkH a b u)=mkH b a (swp u):=by
  unfold revS mkH
  rw [swp_side3,swp_side2]
theorem flp_keep {x:S47} (h:x.f0=1):flp x=x:=by
  cases x
  simp only at h
  subst h
  rfl
theorem lead_cases (c:Nat) (ah:List S66):hunk_Build.lead c ah= []∨ ∃l,hunk_Build.lead c ah= [⟨1,l⟩]:=by
  unfold hunk_Build.lead
  split
  · exact .inr ⟨_,rfl⟩
  · exact .inl rfl
theorem trail_cases (c:Nat) (ah:List S66):hunk_Build.trail c ah= []∨ ∃l,hunk_Build.trail c ah= [⟨1,l⟩]:=by
  unfold hunk_Build.trail
  split
  · exact .inr ⟨_,rfl⟩
  · exact .inl rfl
theorem swp_lead (c:Nat) (ah:List S66) (v:List S47):swp (hunk_Build.lead c ah++v)=hunk_Build.lead c ah++swp v:=by
  rcases lead_cases c ah with e|⟨l,e⟩
  · rw [e]
    rfl
  · rw [e,List.singleton_append,swp_one _ _ (fun y _ h=>by cases h.1)]
    rfl
theorem swp_trail (c:Nat) (ah:List S66) (u:List S47):swp (u++hunk_Build.trail c ah)=swp u++hunk_Build.trail c ah:=by
  rcases trail_cases c ah with e|⟨l,e⟩
  · rw [e,List.append_nil,List.append_nil]
  · rw [e,swp_app u [⟨1,l⟩] (fun x _ y hy h=>by simp at hy;subst hy;cases h.2)]
    rfl
theorem ad_flp (x:S47) (h:x.f0=1∨x.f0=2∨x.f0=3):ad3 (flp x)=ad2 x∧ad2 (flp x)=ad3 x:=by
  unfold ad3 ad2
  rw [flp_f1]
  rcases h with h|h|h
  · rw [flp_1 (by omega) (by omega),if_neg (by omega),if_neg (by omega)]
    exact⟨rfl,rfl⟩
  · rw [flp_2 h,if_pos rfl,if_pos h,if_neg (by omega),if_neg (by omega)]
    exact⟨rfl,rfl⟩
  · rw [flp_3 h,if_pos rfl,if_pos h,if_neg (by omega),if_neg (by omega)]
    exact⟨rfl,rfl⟩
def cflip (cur:Option (Nat×Nat×List S47)):Option (Nat×Nat×List S47):=cur.map fun q=>(q.2.1,q.1,swp q.2.2)
def okc (n:List S47) (cur:Option (Nat×Nat×List S47)):Prop:= ∀q∈cur, ∀x∈q.2.2.getLast?, ∀y∈n.head?,¬(x.f0=2∧y.f0=3)
theorem okc_last {n:List S47} {a b:Nat} {u:List S47} {x:S47} (h: ∀y∈n.head?,¬(x.f0=2∧y.f0=3)):okc n (some (a,b,u++ [x])):=by
  intro q hq z hz y hy
  cases hq
  simp at hz
  subst hz
  exact h y hy
theorem bld_flp (c:Nat) (x:S47) (t:List S47) (hx:x.f0=1∨x.f0=2∨x.f0=3) (hp: ∀y∈t.head?,¬(x.f0=2∧y.f0=3)) (a b:Nat) (cur:Option (Nat×Nat×List S47)) (ah:List S66) (hc:okc (x::t) cur)
    (ih: ∀(a b:Nat) (cur:Option (Nat×Nat×List S47)) (ah:List S66),okc t cur→bld c (swp t) b a (cflip cur) ah=(bld c t a b cur ah).map revS):
    bld c (swp (x::t)) b a (cflip cur) ah=(bld c (x::t) a b cur ah).map revS:=by
  obtain⟨e3,e2⟩:=ad_flp x hx
  rw [swp_one x t hp]
  have hnone:okc t none:=fun q hq=>by cases hq
  cases cur with
  | none=>
    by_cases h1:x.f0=1
    · rw [show cflip (none:Option (Nat×Nat×List S47))=none from rfl,bld,bld,if_pos (by rw [flp_keep h1];exact h1),if_pos h1,e3,e2,flp_f1]
      exact ih _ _ none _ hnone
    · have h1':(flp x).f0≠1:=by
        rcases hx with h|h|h
        · exact absurd h h1
        · rw [flp_2 h];decide
        · rw [flp_3 h];decide
      rw [show cflip (none:Option (Nat×Nat×List S47))=none from rfl,bld,bld,if_neg h1',if_neg h1,e3,e2]
      have:=ih (a+ad3 x) (b+ad2 x) (some (a-min c ah.length,b-min c ah.length,hunk_Build.lead c ah++ [x])) [] (okc_last hp)
      rw [← this]
      congr 1
      unfold cflip
      rw [Option.map_some,swp_lead]
      rfl
  | some q=>
    obtain⟨a0,b0,now⟩:=q
    have hsn:swp (now++ [x])=swp now++ [flp x]:=swp_app now [x] (fun z hz y hy=>by simp at hy;subst hy;exact hc _ rfl z hz x rfl)
    by_cases h1:x.f0=1
    · rw [show cflip (some (a0,b0,now))=some (b0,a0,swp now) from rfl,bld,bld,if_pos (by rw [flp_keep h1];exact h1),if_pos h1,e3,e2,flp_f1,swp_nil]
      by_cases h2:t.isEmpty=true∨2*c<x.f1.length
      · rw [if_pos h2,if_pos h2,List.map_cons,revS_mk,swp_trail, ← ih _ _ none _ hnone]
        rfl
      · rw [if_neg h2,if_neg h2, ← hsn]
        exact ih _ _ (some (a0,b0,now++ [x])) ah (okc_last hp)
    · have h1':(flp x).f0≠1:=by
        rcases hx with h|h|h
        · exact absurd h h1
        · rw [flp_2 h];decide
        · rw [flp_3 h];decide
      rw [show cflip (some (a0,b0,now))=some (b0,a0,swp now) from rfl,bld,bld,if_neg h1',if_neg h1,e3,e2, ← hsn]
      exact ih _ _ (some (a0,b0,now++ [x])) ah (okc_last hp)
theorem bld_swp (c:Nat): ∀(n:List S47) (a b:Nat) (cur:Option (Nat×Nat×List S47)) (ah:List S66),(∀x∈n,x.f0=1∨x.f0=2∨x.f0=3)→okc n cur→bld c (swp n) b a (cflip cur) ah=(bld c n a b cur ah).map revS
  | [],a,b,none,ah,_,_=>rfl
  | [],a,b,some (a0,b0,now),ah,_,_=>by
    show [mkH b0 a0 (swp now)]= [revS (mkH a0 b0 now)]
    rw [revS_mk]
  | [x],a,b,cur,ah,h,hc=>by
    refine bld_flp c x [] (h x (List.mem_cons_self ..)) (fun y hy=>by cases hy) a b cur ah hc (fun a b cur ah hc=>?_)
    cases cur with
    | none=>rfl
    | some q=>
      show [mkH q.2.1 q.1 (swp q.2.2)]= [revS (mkH q.1 q.2.1 q.2.2)]
      rw [revS_mk]
  | x::y::t,a,b,cur,ah,h,hc=>by
    have ih1:=fun a b cur ah hc=>bld_swp c (y::t) a b cur ah (fun z hz=>h z (List.mem_cons_of_mem _ hz)) hc
    have ih2:=fun a b cur ah hc=>bld_swp c t a b cur ah (fun z hz=>h z (List.mem_cons_of_mem _ (List.mem_cons_of_mem _ hz))) hc
    by_cases hp:x.f0=2∧y.f0=3
    · obtain⟨h2,h3⟩:=hp
      have ex3:ad3 x=x.f1.length:=by unfold ad3;rw [if_neg (by omega)]
      have ex2:ad2 x=0:=by unfold ad2;rw [if_pos h2]
      have ey3:ad3 y=0:=by unfold ad3;rw [if_pos h3]
      have ey2:ad2 y=y.f1.length:=by unfold ad2;rw [if_neg (by omega)]
      have fx3:ad3 (⟨2,y.f1⟩:S47)=y.f1.length:=rfl
      have fx2:ad2 (⟨2,y.f1⟩:S47)=0:=rfl
      have fy3:ad3 (⟨3,x.f1⟩:S47)=0:=rfl
      have fy2:ad2 (⟨3,x.f1⟩:S47)=x.f1.length:=rfl
      have hpair: ∀u:List S47,(∀z∈u.getLast?,z.f0≠2∨True)→swp (u++ [x]++ [y])=swp u++ [⟨2,y.f1⟩]++ [⟨3,x.f1⟩]:=by
        intro u _
        rw [List.append_assoc,List.append_assoc,swp_app u ([x]++ [y]) (fun z hz w hw=>by simp at hw;subst hw;intro e;omega)]
        rw [List.singleton_append,swp_two x y [] h2 h3]
        rfl
      rw [swp_two x y t h2 h3]
      cases cur with
      | none=>
        rw [show cflip (none:Option (Nat×Nat×List S47))=none from rfl]
        simp only [bld]
        rw [if_neg (show ¬(2:Int)=1 by decide),if_neg (show ¬(3:Int)=1 by decide),if_neg (show ¬x.f0=1 by omega),if_neg (show ¬y.f0=1 by omega),fx3,fx2,fy3,fy2,ex3,ex2,ey3,ey2]
        have:=ih2 (a+x.f1.length+0) (b+0+y.f1.length) (some (a-min c ah.length,b-min c ah.length,hunk_Build.lead c ah++ [x]++ [y])) [] (okc_last (fun z _ e=>by omega))
        rw [← this]
        rw [show cflip (some (a-min c ah.length,b-min c ah.length,hunk_Build.lead c ah++ [x]++ [y]))=some (b-min c ah.length,a-min c ah.length,swp (hunk_Build.lead c ah++ [x]++ [y])) from rfl]
        rw [show swp (hunk_Build.lead c ah++ [x]++ [y])=hunk_Build.lead c ah++ [⟨2,y.f1⟩]++ [⟨3,x.f1⟩] by
          rw [List.append_assoc,swp_lead,List.singleton_append,swp_two x y [] h2 h3,List.append_assoc]
          rfl]
        simp only [Nat.add_zero]
      | some q=>
        obtain⟨a0,b0,now⟩:=q
        rw [show cflip (some (a0,b0,now))=some (b0,a0,swp now) from rfl]
        simp only [bld]
        rw [if_neg (show ¬(2:Int)=1 by decide),if_neg (show ¬(3:Int)=1 by decide),if_neg (show ¬x.f0=1 by omega),if_neg (show ¬y.f0=1 by omega),fx3,fx2,fy3,fy2,ex3,ex2,ey3,ey2]
        have:=ih2 (a+x.f1.length+0) (b+0+y.f1.length) (some (a0,b0,now++ [x]++ [y])) ah (okc_last (fun z _ e=>by omega))
        rw [← this]
        rw [show cflip (some (a0,b0,now++ [x]++ [y]))=some (b0,a0,swp (now++ [x]++ [y])) from rfl,hpair now (fun _ _=> .inr trivial)]
        simp only [Nat.add_zero]
    · exact bld_flp c x (y::t) (h x (List.mem_cons_self ..)) (fun z hz=>by simp at hz;subst hz;exact hp) a b cur ah hc ih1
theorem hnk_swp (c:Nat) (n:List S47) (hn:Nf n):hnk c (swp n)=(hnk c n).map revS:=bld_swp c n 0 0 none [] (fun x hx=>(nf_good n hn x hx).1) (fun q hq=>by cases hq)
theorem rev_hnk (c:Nat) (n:List S47) (hn:Nf n) (hl:nl n≤400):rev (hnk c n)=(hnk c (swp n),0):=by
  unfold rev
  rw [if_pos (hnk_chk c n hn hl),hnk_swp c n hn]
  congr 1
  refine List.map_congr_left fun g hg=>?_
  obtain⟨h1,h2⟩:=hnk_nf c n hn (by omega) g hg
  unfold revh revS inv
  rw [if_pos (nf_chk _ h1 h2),inv_nf _ h1]
end Go.Proofs.Ytfnbodjmmkjlcaa.H
namespace Go.Proofs.Ytfnbodjmmkjlcaa.H
open Go.RowKit Go.Proofs.YtfnbodjmmkjlcaaW.PrintWords Go.Proofs.YtfnbodjmmkjlcaaW.PrintLast Go.Proofs.YtfnbodjmmkjlcaaW.PrintMore
set_option linter.unusedVariables false
set_option linter.unusedSimpArgs false
theorem rdRL (l:List (List S66)) (i:Nat):rd_L4 l (i:Int)=l.getD i []:=by simp [rd_L4]
theorem rdRI (l:List (List Int)) (i:Nat):rd_L12 l (i:Int)=l.getD i []:=by simp [rd_L12]
def NumR (K:List S66) (row:List Int) (ls:List S66):Prop:= ∃ids:List Nat,row=ids.map (fun n:Nat=>(n:Int))∧(∀n∈ids,n<K.length)∧ids.map (fun n=>K.getD n z66)=ls
theorem numR_more {K:List S66} {row:List Int} {ls:List S66} (t:List S66) (h:NumR K row ls):NumR (K++t) row ls:=by
  obtain⟨ids,h1,h2,h3⟩:=h
  refine⟨ids,h1,fun n hn=>by have:=h2 n hn;rw [List.length_append];omega,?_⟩
  rw [← h3]
  refine List.map_congr_left fun n hn=>?_
  have:=h2 n hn
  rw [List.getD_eq_getElem?_getD,List.getD_eq_getElem?_getD,List.getElem?_append_left this]
theorem numR_snoc {K:List S66} {row:List Int} {ls:List S66} {n:Nat} {x:S66} (h:NumR K row ls) (hn:n<K.length) (hx:K.getD n z66=x):NumR K (row++ [(n:Int)]) (ls++ [x]):=by
  obtain⟨ids,h1,h2,h3⟩:=h
  refine⟨ids++ [n],by rw [h1];simp,fun m hm=>?_,by rw [List.map_append,h3,List.map_singleton,hx]⟩
  rcases List.mem_append.1 hm with hm|hm
  · exact h2 m hm
  · rw [List.mem_singleton.1 hm]
    exact hn
theorem numR_len {K:List S66} {row:List Int} {ls:List S66} (h:NumR K row ls):row.length=ls.length:=by
  obtain⟨ids,h1,_,h3⟩:=h
  rw [h1, ← h3,List.length_map,List.length_map]
theorem numR_get {K:List S66} {row:List Int} {ls:List S66} (h:NumR K row ls) (i:Nat) (hi:i<ls.length): ∃n:Nat,row.getD i 0=(n:Int)∧ls.getD i z66=K.getD n z66:=by
  obtain⟨ids,h1,h2,h3⟩:=h
  have hi':i<ids.length:=by rw [← h3,List.length_map] at hi;exact hi
  refine⟨ids.getD i 0,?_,?_⟩
  · rw [h1,getD_lt (by rw [List.length_map];exact hi'),List.getElem_map,getD_lt hi']
  · rw [← h3,getD_lt (by rw [List.length_map];exact hi'),List.getElem_map,getD_lt hi']
theorem numR_eq {K:List S66} {ra rb:List Int} {a b:List S66} (ha:NumR K ra a) (hb:NumR K rb b) (i j:Nat) (hi:i<a.length) (hj:j<b.length) (h:ra.getD i 0=rb.getD j 0):a.getD i z66=b.getD j z66:=by
  obtain⟨n,h1,h2⟩:=numR_get ha i hi
  obtain⟨m,h3,h4⟩:=numR_get hb j hj
  rw [h1,h3] at h
  rw [h2,h4,show n=m by omega]
theorem num_l2 (X:List (List S66)) (i kk:Nat) (hi:i<X.length) (hk:kk<(X.getD i []).length) (hX:X.length≤1000) (hkk:kk≤1000) (K:List S66) (out:List (List Int)) (row:List Int) (hK:K.length≤1000000) (hrow:row.length≤1000000): ∀(d n:Nat),n+d=K.length→
    ∃(t:List S66) (m:Nat),t.length≤1∧m<(K++t).length∧(K++t).getD m z66=(X.getD i []).getD kk z66∧ ∀r,Ev (fun k=>jalousieref06_Numbers.l1 k X (K++t) out (i:Int) (row++ [(m:Int)]) ((kk+1:Nat):Int)) r→Ev (fun k=>jalousieref06_Numbers.l2 k X K out (i:Int) row (kk:Int) (n:Int)) r
  | 0,n,h=>by
    refine⟨[(X.getD i []).getD kk z66],n,by simp,by simp;omega,?_,fun r hr=>?_⟩
    · rw [List.getD_eq_getElem?_getD,List.getElem?_append_right (by omega)]
      simp [show n-K.length=0 by omega]
    · refine ev_succ ?_
      simp only [jalousieref06_Numbers.l2,rdRL,rdL,line_eta]
      rw [w64s kk (by omega)]
      refine ev_neg (by omega) (ev_pos (by omega) (ev_pos (by omega) (ev_pos (by omega) (ev_pos (by omega) (ev_pos (by omega) (ev_pos (by omega) (ev_pos (by omega) ?_)))))))
      exact hr
  | d+1,n,h=>by
    by_cases e:K.getD n z66=(X.getD i []).getD kk z66
    · refine⟨[],n,by simp,by simp;omega,by rw [List.append_nil];exact e,fun r hr=>?_⟩
      rw [List.append_nil] at hr
      refine ev_succ ?_
      simp only [jalousieref06_Numbers.l2,rdRL,rdL,line_ne]
      rw [decide_eq_true e,w64s kk (by omega)]
      refine ev_pos (by omega) (ev_pos (by omega) (ev_pos (by omega) (ev_pos (by omega) (ev_pos (by omega) (ev_pos (by omega) (ev_neg (by simp) (ev_neg (by omega) (ev_pos (by omega) ?_))))))))
      exact hr
    · obtain⟨t,m,h1,h2,h3,h4⟩:=num_l2 X i kk hi hk hX hkk K out row hK hrow d (n+1) (by omega)
      refine⟨t,m,h1,h2,h3,fun r hr=>?_⟩
      refine ev_succ ?_
      simp only [jalousieref06_Numbers.l2,rdRL,rdL,line_ne]
      rw [decide_eq_false e,w64s n (by omega)]
      refine ev_pos (by omega) (ev_pos (by omega) (ev_pos (by omega) (ev_pos (by omega) (ev_pos (by omega) (ev_pos (by omega) (ev_pos (by simp) ?_))))))
      exact h4 r hr
theorem num_l1 (X:List (List S66)) (i:Nat) (hi:i<X.length) (hX:X.length≤1000) (hl:(X.getD i []).length≤1000) (out:List (List Int)) (ho:out.length≤1000): ∀(d kk:Nat) (K:List S66) (row:List Int),kk+d=(X.getD i []).length→K.length≤10000+kk→NumR K row ((X.getD i []).take kk)→
    ∃(t:List S66) (row':List Int),t.length≤d∧NumR (K++t) row' (X.getD i [])∧ ∀r,Ev (fun k=>jalousieref06_Numbers.l0 k X (K++t) (out++ [row']) ((i+1:Nat):Int)) r→Ev (fun k=>jalousieref06_Numbers.l1 k X K out (i:Int) row (kk:Int)) r
  | 0,kk,K,row,h,hK,hN=>by
    rw [List.take_of_length_le (by omega)] at hN
    refine⟨[],row,by simp,by rw [List.append_nil];exact hN,fun r hr=>?_⟩
    rw [List.append_nil] at hr
    refine ev_succ ?_
    simp only [jalousieref06_Numbers.l1,rdRL]
    rw [w64s i (by omega)]
    refine ev_pos (by omega) (ev_pos (by omega) (ev_neg (by omega) (ev_pos (by omega) ?_)))
    exact hr
  | d+1,kk,K,row,h,hK,hN=>by
    have hrl:=numR_len hN
    rw [List.length_take] at hrl
    obtain⟨t,m,h1,h2,h3,h4⟩:=num_l2 X i kk hi (by omega) hX (by omega) K out row (by omega) (by omega) K.length 0 (by omega)
    have hN':NumR (K++t) (row++ [(m:Int)]) ((X.getD i []).take (kk+1)):=by
      rw [take_snoc _ kk (by omega) z66]
      exact numR_snoc (numR_more t hN) h2 h3
    obtain⟨u,row',g1,g2,g3⟩:=num_l1 X i hi hX hl out ho d (kk+1) (K++t) (row++ [(m:Int)]) (by omega) (by rw [List.length_append];omega) hN'
    refine⟨t++u,row',by rw [List.length_append];omega,by rw [← List.append_assoc];exact g2,fun r hr=>?_⟩
    rw [← List.append_assoc] at hr
    refine ev_succ ?_
    simp only [jalousieref06_Numbers.l1,rdRL]
    refine ev_pos (by omega) (ev_pos (by omega) (ev_pos (by omega) ?_))
    exact h4 r (g3 r hr)
theorem num_ev (a b:List S66) (ha:a.length≤400) (hb:b.length≤400): ∃(K:List S66) (ra rb:List Int),NumR K ra a∧NumR K rb b∧Ev (fun k=>jalousieref06_Numbers.f k [a,b]) [ra,rb]:=by
  obtain⟨t,ra,h1,h2,h3⟩:=num_l1 [a,b] 0 (by simp) (by simp) (show a.length≤1000 by omega) [] (by simp) a.length 0 [] [] (Nat.zero_add _) (by simp) ⟨[],rfl,(fun _ h=>by cases h),by simp⟩
  have h1':t.length≤a.length:=h1
  obtain⟨u,rb,g1,g2,g3⟩:=num_l1 [a,b] 1 (by simp) (by simp) (show b.length≤1000 by omega) [ra] (by simp) b.length 0 ([]++t) [] (Nat.zero_add _) (by rw [List.nil_append];omega) ⟨[],rfl,(fun _ h=>by cases h),by simp⟩
  refine⟨[]++t++u,ra,rb,numR_more u h2,g2,?_⟩
  unfold jalousieref06_Numbers.f
  refine ev_succ ?_
  simp only [jalousieref06_Numbers.l0]
  refine ev_pos (by simp) (h3 _ (ev_succ ?_))
  simp only [jalousieref06_Numbers.l0]
  refine ev_pos (by simp) (g3 _ (ev_succ ?_))
  simp only [jalousieref06_Numbers.l0]
  exact ev_neg (by simp) (ev_some rfl)
structure Shp (n m:Nat) (T:List (List Int)):Prop where
  len:T.length=n+1
  row: ∀i,i≤n→(T.getD i []).length=m+1
theorem set_getD {α:Type} (T:List α) (i j:Nat) (r d:α) (h:i<T.length):(T.set i r).getD j d=if i=j then r else T.getD j d:=by
  rw [List.getD_eq_getElem?_getD,List.getElem?_set]
  by_cases e:i=j
  · subst e
    rw [if_pos rfl,if_pos h,if_pos rfl]
    rfl
  · rw [if_neg e,if_neg e,List.getD_eq_getElem?_getD]
theorem shp_set {n m:Nat} {T:List (List Int)} (h:Shp n m T) (i:Nat) (hi:i≤n) (r:List Int) (hr:r.length=m+1):Shp n m (T.set i r):=by
  refine⟨by rw [List.length_set];exact h.len,fun j hj=>?_⟩
  rw [set_getD _ _ _ _ _ (by have:=h.len;omega)]
  split
  · exact hr
  · exact h.row j hj
def colm (n m:Nat) (T:List (List Int)) (i:Nat):Prop:=(T.getD i []).getD m 0=(n:Int)-i
theorem tab_put (a b:List Int) (T:List (List Int)) (i jj:Nat) (v:Int) (hS:Shp a.length b.length T) (hi:i≤a.length) (hj:jj≤b.length) (hv:jj=b.length→v=(a.length:Int)-i) (hc:jj+1≤b.length→colm a.length b.length T i):
    Shp a.length b.length (T.set i ((T.getD i []).set jj v))∧(∀j,j≠i→(T.set i ((T.getD i []).set jj v)).getD j []=T.getD j [])∧colm a.length b.length (T.set i ((T.getD i []).set jj v)) i:=by
  have hl:=hS.len
  have hr:=hS.row i hi
  refine⟨shp_set hS i hi _ (by rw [List.length_set];exact hr),fun j hj=>?_,?_⟩
  · rw [set_getD _ _ _ _ _ (by omega),if_neg (fun e=>hj e.symm)]
  · unfold colm
    rw [set_getD _ _ _ _ _ (by omega),if_pos rfl,set_getD _ _ _ _ _ (by omega)]
    by_cases e:jj=b.length
    · rw [if_pos e]
      exact hv e
    · rw [if_neg e]
      exact hc (by omega)
theorem tab_l2 (a b:List Int) (ha:a.length≤1000) (hb:b.length≤1000) (i:Nat) (hi:i≤a.length): ∀(jj:Nat) (T:List (List Int)),Shp a.length b.length T→jj≤b.length+1→(jj≤b.length→colm a.length b.length T i)→
    ∃T',Shp a.length b.length T'∧(∀j,j≠i→T'.getD j []=T.getD j [])∧colm a.length b.length T' i∧ ∀r,Ev (fun k=>jalousieref07_Table.l1 k a b T' ((i:Int)-1)) r→Ev (fun k=>jalousieref07_Table.l2 k a b T (i:Int) ((jj:Int)-1)) r
  | 0,T,hS,hj,hc=>by
    refine⟨T,hS,fun _ _=>rfl,hc (by omega),fun r hr=>?_⟩
    refine ev_succ ?_
    simp only [jalousieref07_Table.l2]
    rw [w64i ((i:Int)-1) (by omega) (by omega)]
    exact ev_neg (by omega) hr
  | jj+1,T,hS,hj,hc=>by
    have hl:=hS.len
    have hr0:=hS.row i hi
    have hgo: ∀v:Int,(jj=b.length→v=(a.length:Int)-i)→ ∃T',Shp a.length b.length T'∧(∀j,j≠i→T'.getD j []=T.getD j [])∧colm a.length b.length T' i∧ ∀r,Ev (fun k=>jalousieref07_Table.l1 k a b T' ((i:Int)-1)) r→Ev (fun k=>jalousieref07_Table.l2 k a b (T.set i ((T.getD i []).set jj v)) (i:Int) ((jj:Int)-1)) r:=by
      intro v hv
      obtain⟨p1,p2,p3⟩:=tab_put a b T i jj v hS hi (by omega) hv (fun h=>hc (by omega))
      obtain⟨T',q1,q2,q3,q4⟩:=tab_l2 a b ha hb i hi jj _ p1 (by omega) (fun _=>p3)
      exact⟨T',q1,fun j hj=>(q2 j hj).trans (p2 j hj),q3,q4⟩
    rw [show(((jj+1:Nat):Int)-1)=(jj:Int) by omega]
    by_cases e1:i=a.length
    · obtain⟨T',q1,q2,q3,q4⟩:=hgo ((b.length:Int)-jj) (fun h=>by omega)
      refine⟨T',q1,q2,q3,fun r hr=>ev_succ ?_⟩
      simp only [jalousieref07_Table.l2,rdRI,Int.toNat_natCast]
      rw [w64i ((jj:Int)-1) (by omega) (by omega),w64i ((b.length:Int)-jj) (by omega) (by omega)]
      exact ev_pos (by omega) (ev_pos (by omega) (ev_pos (by omega) (ev_pos (by omega) (ev_pos (by omega) (ev_pos (by omega) (q4 r hr))))))
    · by_cases e2:jj=b.length
      · obtain⟨T',q1,q2,q3,q4⟩:=hgo ((a.length:Int)-i) (fun _=>rfl)
        refine⟨T',q1,q2,q3,fun r hr=>ev_succ ?_⟩
        simp only [jalousieref07_Table.l2,rdRI,Int.toNat_natCast]
        rw [w64i ((jj:Int)-1) (by omega) (by omega),w64i ((a.length:Int)-i) (by omega) (by omega)]
        exact ev_pos (by omega) (ev_neg (by omega) (ev_pos (by omega) (ev_pos (by omega) (ev_pos (by omega) (ev_pos (by omega) (ev_pos (by omega) (q4 r hr)))))))
      · have hr1:=hS.row (i+1) (by omega)
        by_cases e3:a.getD i 0=b.getD jj 0
        · obtain⟨T',q1,q2,q3,q4⟩:=hgo ((T.getD (i+1) []).getD (jj+1) 0) (fun h=>absurd h e2)
          refine⟨T',q1,q2,q3,fun r hr=>ev_succ ?_⟩
          simp only [jalousieref07_Table.l2]
          rw [w64i ((jj:Int)-1) (by omega) (by omega),w64s jj (by omega),w64s i (by omega)]
          simp only [rdRI,rdn,Int.toNat_natCast]
          exact ev_pos (by omega) (ev_neg (by omega) (ev_neg (by omega) (ev_pos (by omega) (ev_pos (by omega) (ev_pos (by omega) (ev_pos (by omega) (ev_pos e3 (ev_pos (by omega) (ev_pos (by omega) (ev_pos (by omega) (ev_pos (by omega) (ev_pos (by omega) (ev_pos (by omega) (q4 r hr))))))))))))))
        · by_cases e4:(T.getD (i+1) []).getD jj 0<(T.getD i []).getD (jj+1) 0
          · obtain⟨T',q1,q2,q3,q4⟩:=hgo (wrap64 ((T.getD (i+1) []).getD jj 0+1)) (fun h=>absurd h e2)
            refine⟨T',q1,q2,q3,fun r hr=>ev_succ ?_⟩
            simp only [jalousieref07_Table.l2]
            rw [w64i ((jj:Int)-1) (by omega) (by omega),w64s jj (by omega),w64s i (by omega)]
            simp only [rdRI,rdn,Int.toNat_natCast]
            exact ev_pos (by omega) (ev_neg (by omega) (ev_neg (by omega) (ev_pos (by omega) (ev_pos (by omega) (ev_pos (by omega) (ev_pos (by omega) (ev_neg e3 (ev_pos (by omega) (ev_pos (by omega) (ev_pos (by omega) (ev_pos (by omega) (ev_pos (by omega) (ev_pos (by omega) (ev_pos e4 (ev_pos (by omega) (q4 r hr))))))))))))))))
          · obtain⟨T',q1,q2,q3,q4⟩:=hgo (wrap64 ((T.getD i []).getD (jj+1) 0+1)) (fun h=>absurd h e2)
            refine⟨T',q1,q2,q3,fun r hr=>ev_succ ?_⟩
            simp only [jalousieref07_Table.l2]
            rw [w64i ((jj:Int)-1) (by omega) (by omega),w64s jj (by omega),w64s i (by omega)]
            simp only [rdRI,rdn,Int.toNat_natCast]
            exact ev_pos (by omega) (ev_neg (by omega) (ev_neg (by omega) (ev_pos (by omega) (ev_pos (by omega) (ev_pos (by omega) (ev_pos (by omega) (ev_neg e3 (ev_pos (by omega) (ev_pos (by omega) (ev_pos (by omega) (ev_pos (by omega) (ev_pos (by omega) (ev_pos (by omega) (ev_neg e4 (ev_pos (by omega) (q4 r hr))))))))))))))))
theorem tab_l1 (a b:List Int) (ha:a.length≤1000) (hb:b.length≤1000): ∀(ii:Nat) (T:List (List Int)),Shp a.length b.length T→ii≤a.length+1→(∀j,ii≤j→j≤a.length→colm a.length b.length T j)→
    ∃T',Shp a.length b.length T'∧(∀j,j≤a.length→colm a.length b.length T' j)∧Ev (fun k=>jalousieref07_Table.l1 k a b T ((ii:Int)-1)) T'
  | 0,T,hS,hi,hc=>by
    refine⟨T,hS,fun j hj=>hc j (by omega) hj,ev_succ ?_⟩
    simp only [jalousieref07_Table.l1]
    exact ev_neg (by omega) (ev_some rfl)
  | ii+1,T,hS,hi,hc=>by
    obtain⟨T1,p1,p2,p3,p4⟩:=tab_l2 a b ha hb ii (by omega) (b.length+1) T hS (by omega) (fun h=>by omega)
    obtain⟨T',q1,q2,q3⟩:=tab_l1 a b ha hb ii T1 p1 (by omega) (fun j h1 h2=>by
      by_cases e:j=ii
      · rw [e]
        exact p3
      · unfold colm
        rw [p2 j e]
        exact hc j (by omega) h2)
    refine⟨T',q1,q2,ev_succ ?_⟩
    rw [show(((ii+1:Nat):Int)-1)=(ii:Int) by omega]
    simp only [jalousieref07_Table.l1]
    refine ev_pos (by omega) ?_
    have:=p4 T' q3
    rwa [show(((b.length+1:Nat):Int)-1)=(b.length:Int) by omega] at this
theorem tab_l0 (a b:List Int) (ha:a.length≤1000) (hb:b.length≤1000) (r:List (List Int)) (hr: ∀T,Shp a.length b.length T→T=List.replicate (a.length+1) (List.replicate (b.length+1) 0)→Ev (fun k=>jalousieref07_Table.l1 k a b T (a.length:Int)) r): ∀(d i:Nat),i+d=a.length+1→Ev (fun k=>jalousieref07_Table.l0 k a b (List.replicate i (List.replicate (b.length+1) 0)) (i:Int)) r
  | 0,i,h=>by
    refine ev_succ ?_
    simp only [jalousieref07_Table.l0]
    refine ev_neg (by omega) (hr _ ⟨by simp;omega,fun j hj=>?_⟩ (by rw [show i=a.length+1 by omega]))
    rw [getD_lt (by rw [List.length_replicate];omega),List.getElem_replicate,List.length_replicate]
  | d+1,i,h=>by
    refine ev_succ ?_
    simp only [jalousieref07_Table.l0]
    rw [w64s b.length (by omega),w64s i (by omega),Int.toNat_natCast]
    refine ev_pos (by omega) (ev_pos (by omega) (ev_pos (by omega) (ev_pos (by rw [List.length_replicate];omega) ?_)))
    have:=tab_l0 a b ha hb r hr d (i+1) (by omega)
    rwa [List.replicate_succ'] at this
theorem tab_ev (a b:List Int) (ha:a.length≤1000) (hb:b.length≤1000): ∃T,Shp a.length b.length T∧(∀j,j≤a.length→colm a.length b.length T j)∧Ev (fun k=>jalousieref07_Table.f k a b) T:=by
  have hS:Shp a.length b.length (List.replicate (a.length+1) (List.replicate (b.length+1) 0)):=by
    refine⟨by simp,fun j hj=>?_⟩
    rw [getD_lt (by rw [List.length_replicate];omega),List.getElem_replicate,List.length_replicate]
  obtain⟨T',q1,q2,q3⟩:=tab_l1 a b ha hb (a.length+1) _ hS (by omega) (fun j h1 h2=>by omega)
  refine⟨T',q1,q2,?_⟩
  unfold jalousieref07_Table.f
  refine tab_l0 a b ha hb T' (fun T _ e=>?_) (a.length+1) 0 (by omega)
  subst e
  rwa [show(((a.length+1:Nat):Int)-1)=(a.length:Int) by omega] at q3
def wk (a b:List Int):List Int→Nat→Nat→Prop
  | [],i,j=>i=a.length∧j=b.length
  | d::t,i,j=>(d=1∧i<a.length∧j<b.length∧a.getD i 0=b.getD j 0∧wk a b t (i+1) (j+1))∨(d=2∧i<a.length∧wk a b t (i+1) j)∨(d=3∧j<b.length∧wk a b t i (j+1))
def Sih (a b:List Int) (T:List (List Int)) (d:Nat):Prop:= ∀(i j:Nat) (out:List Int),i≤a.length→j≤b.length→(a.length-i)+(b.length-j)≤d→out.length+d≤10000→ ∃t,wk a b t i j∧t.length≤d∧Ev (fun k=>jalousieref07_Steps.l0 k a b out T (i:Int) (j:Int)) (out++t)
theorem steps_stay (a b:List Int) (T:List (List Int)) (d:Nat) (ih:Sih a b T d) (i j:Nat) (out:List Int) (hi:i<a.length) (hj:j<b.length) (ha:a.length≤1000) (hb:b.length≤1000) (hd:(a.length-i)+(b.length-j)≤d+1) (ho:out.length+(d+1)≤10000) (h3:a.getD i 0=b.getD j 0): ∃t,wk a b t i j∧t.length≤d+1∧Ev (fun k=>jalousieref07_Steps.j3 k a b out T (i:Int) (j:Int) true) (out++t):=by
  obtain⟨t,w1,w2,w3⟩:=ih (i+1) (j+1) (out++ [1]) (by omega) (by omega) (by omega) (by simp;omega)
  refine⟨1::t, .inl ⟨rfl,hi,hj,h3,w1⟩,by simp;omega,ev_succ ?_⟩
  simp only [jalousieref07_Steps.j3]
  rw [w64s i (by omega),w64s j (by omega)]
  exact ev_pos trivial (ev_pos (by omega) (ev_cast w3 (by simp)))
theorem steps_gone (a b:List Int) (T:List (List Int)) (d:Nat) (ih:Sih a b T d) (hS:Shp a.length b.length T) (i j:Nat) (out:List Int) (hi:i<a.length) (hj:j≤b.length) (ha:a.length≤1000) (hb:b.length≤1000) (hd:(a.length-i)+(b.length-j)≤d+1) (ho:out.length+(d+1)≤10000) (h2:wrap64 ((T.getD (i+1) []).getD j 0+1)=(T.getD i []).getD j 0): ∃t,wk a b t i j∧t.length≤d+1∧Ev (fun k=>jalousieref07_Steps.j3 k a b out T (i:Int) (j:Int) false) (out++t):=by
  have hl:=hS.len
  have r0:=hS.row i (by omega)
  have r1:=hS.row (i+1) (by omega)
  obtain⟨t,w1,w2,w3⟩:=ih (i+1) j (out++ [2]) (by omega) (by omega) (by omega) (by simp;omega)
  refine⟨2::t, .inr (.inl ⟨rfl,hi,w1⟩),by simp;omega,ev_succ ?_⟩
  simp only [jalousieref07_Steps.j3]
  rw [w64s i (by omega),w64s j (by omega)]
  simp only [rdRI,rdn]
  exact ev_neg (by simp) (ev_pos (by omega) (ev_pos (by omega) (ev_pos (by omega) (ev_pos (by omega) (ev_pos (by omega) (ev_pos (by omega) (ev_pos (by omega) (ev_pos (by omega) (ev_pos h2 (ev_pos (by omega) (ev_cast w3 (by simp))))))))))))
theorem steps_made (a b:List Int) (T:List (List Int)) (d:Nat) (ih:Sih a b T d) (hS:Shp a.length b.length T) (i j:Nat) (out:List Int) (hi:i≤a.length) (hj:j<b.length) (ha:a.length≤1000) (hb:b.length≤1000) (hd:(a.length-i)+(b.length-j)≤d+1) (ho:out.length+(d+1)≤10000) (h2: ¬(i<a.length∧wrap64 ((T.getD (i+1) []).getD j 0+1)=(T.getD i []).getD j 0)): ∃t,wk a b t i j∧t.length≤d+1∧Ev (fun k=>jalousieref07_Steps.j3 k a b out T (i:Int) (j:Int) false) (out++t):=by
  have hl:=hS.len
  obtain⟨t,w1,w2,w3⟩:=ih i (j+1) (out++ [3]) (by omega) (by omega) (by omega) (by simp;omega)
  refine⟨3::t, .inr (.inr ⟨rfl,hj,w1⟩),by simp;omega,ev_succ ?_⟩
  by_cases h3:i<a.length
  · have r0:=hS.row i (by omega)
    have r1:=hS.row (i+1) (by omega)
    simp only [jalousieref07_Steps.j3]
    rw [w64s i (by omega),w64s j (by omega)]
    simp only [rdRI,rdn]
    exact ev_neg (by simp) (ev_pos (by omega) (ev_pos (by omega) (ev_pos (by omega) (ev_pos (by omega) (ev_pos (by omega) (ev_pos (by omega) (ev_pos (by omega) (ev_pos (by omega) (ev_neg (fun e=>h2 ⟨h3,e⟩) (ev_pos (by omega) (ev_cast w3 (by simp))))))))))))
  · simp only [jalousieref07_Steps.j3]
    rw [w64s j (by omega)]
    exact ev_neg (by simp) (ev_neg (by omega) (ev_pos (by omega) (ev_cast w3 (by simp))))
theorem steps_change (a b:List Int) (T:List (List Int)) (d:Nat) (ih:Sih a b T d) (hS:Shp a.length b.length T) (hC: ∀j,j≤a.length→colm a.length b.length T j) (i j:Nat) (out:List Int) (hi:i≤a.length) (hj:j≤b.length) (hij:i<a.length∨j<b.length) (ha:a.length≤1000) (hb:b.length≤1000) (hd:(a.length-i)+(b.length-j)≤d+1) (ho:out.length+(d+1)≤10000): ∃t,wk a b t i j∧t.length≤d+1∧Ev (fun k=>jalousieref07_Steps.j3 k a b out T (i:Int) (j:Int) false) (out++t):=by
  by_cases h1:i<a.length∧wrap64 ((T.getD (i+1) []).getD j 0+1)=(T.getD i []).getD j 0
  · exact steps_gone a b T d ih hS i j out h1.1 hj ha hb hd ho h1.2
  · have hj2:j<b.length:=by
      refine Classical.byContradiction fun hj2=>?_
      have hi2:i<a.length:=by omega
      have ej:j=b.length:=by omega
      refine h1 ⟨hi2,?_⟩
      have c1:=hC (i+1) (by omega)
      have c0:=hC i (by omega)
      unfold colm at c0 c1
      rw [ej,c0,c1,w64i _ (by omega) (by omega)]
      omega
    exact steps_made a b T d ih hS i j out hi hj2 ha hb hd ho h1
theorem steps_both (a b:List Int) (T:List (List Int)) (d:Nat) (ih:Sih a b T d) (hS:Shp a.length b.length T) (hC: ∀j,j≤a.length→colm a.length b.length T j) (i j:Nat) (out:List Int) (hi:i≤a.length) (hj:j≤b.length) (hij:i<a.length∨j<b.length) (ha:a.length≤1000) (hb:b.length≤1000) (hd:(a.length-i)+(b.length-j)≤d+1) (ho:out.length+(d+1)≤10000): ∃t,wk a b t i j∧t.length≤d+1∧Ev (fun k=>jalousieref07_Steps.j2 k a b out T (i:Int) (j:Int) true) (out++t):=by
  by_cases h1:i<a.length
  · by_cases h2:j<b.length
    · by_cases h3:a.getD i 0=b.getD j 0
      · obtain⟨t,w1,w2,w3⟩:=steps_stay a b T d ih i j out h1 h2 ha hb hd ho h3
        refine⟨t,w1,w2,ev_succ ?_⟩
        simp only [jalousieref07_Steps.j2,rdn]
        refine ev_pos trivial (ev_pos (by omega) (ev_pos (by omega) (ev_pos (by omega) (ev_pos (by omega) ?_))))
        rw [h3,beq_self_eq_true]
        exact w3
      · obtain⟨t,w1,w2,w3⟩:=steps_change a b T d ih hS hC i j out hi hj hij ha hb hd ho
        refine⟨t,w1,w2,ev_succ ?_⟩
        simp only [jalousieref07_Steps.j2,rdn]
        refine ev_pos trivial (ev_pos (by omega) (ev_pos (by omega) (ev_pos (by omega) (ev_pos (by omega) ?_))))
        rw [beq_eq_false_iff_ne.2 h3]
        exact w3
    · obtain⟨t,w1,w2,w3⟩:=steps_change a b T d ih hS hC i j out hi hj hij ha hb hd ho
      refine⟨t,w1,w2,ev_succ ?_⟩
      simp only [jalousieref07_Steps.j2]
      exact ev_pos trivial (ev_pos (by omega) (ev_neg (by omega) w3))
  · obtain⟨t,w1,w2,w3⟩:=steps_change a b T d ih hS hC i j out hi hj hij ha hb hd ho
    refine⟨t,w1,w2,ev_succ ?_⟩
    simp only [jalousieref07_Steps.j2]
    exact ev_pos trivial (ev_neg (by omega) w3)
theorem steps_l0 (a b:List Int) (T:List (List Int)) (ha:a.length≤1000) (hb:b.length≤1000) (hS:Shp a.length b.length T) (hC: ∀j,j≤a.length→colm a.length b.length T j): ∀d,Sih a b T d
  | 0=>by
    intro i j out hi hj h ho
    refine⟨[],⟨by omega,by omega⟩,by simp,ev_succ ?_⟩
    simp only [jalousieref07_Steps.l0]
    refine ev_neg (by omega) (ev_succ ?_)
    simp only [jalousieref07_Steps.j2]
    refine ev_neg (by simp;omega) (ev_some (by simp))
  | d+1=>by
    have ih:=steps_l0 a b T ha hb hS hC d
    intro i j out hi hj h ho
    by_cases h1:i<a.length
    · obtain⟨t,w1,w2,w3⟩:=steps_both a b T d ih hS hC i j out hi hj (.inl h1) ha hb h ho
      refine⟨t,w1,w2,ev_succ ?_⟩
      simp only [jalousieref07_Steps.l0]
      exact ev_pos (by omega) w3
    · by_cases h2:j<b.length
      · obtain⟨t,w1,w2,w3⟩:=steps_both a b T d ih hS hC i j out hi hj (.inr h2) ha hb h ho
        refine⟨t,w1,w2,ev_succ ?_⟩
        simp only [jalousieref07_Steps.l0]
        refine ev_neg (by omega) ?_
        rw [decide_eq_true (by omega)]
        exact w3
      · refine⟨[],⟨by omega,by omega⟩,by simp,ev_succ ?_⟩
        simp only [jalousieref07_Steps.l0]
        refine ev_neg (by omega) (ev_succ ?_)
        simp only [jalousieref07_Steps.j2]
        refine ev_neg (by simp;omega) (ev_some (by simp))
theorem steps_ev (a b:List Int) (ha:a.length≤400) (hb:b.length≤400): ∃t,wk a b t 0 0∧t.length≤a.length+b.length∧Ev (fun k=>jalousieref07_Steps.f k a b) t:=by
  obtain⟨T,h1,h2,h3⟩:=tab_ev a b (by omega) (by omega)
  obtain⟨t,w1,w2,w3⟩:=steps_l0 a b T (by omega) (by omega) h1 h2 (a.length+b.length) 0 0 [] (by omega) (by omega) (by omega) (by simp;omega)
  refine⟨t,w1,w2,?_⟩
  unfold jalousieref07_Steps.f
  simp only [Option.bind_some]
  refine ev_neg (by omega) ?_
  rw [decide_eq_false (by omega)]
  refine ev_succ ?_
  simp only [jalousieref07_Steps.j0]
  exact ev_neg (by simp) (Ev.bind h3 w3)
def mks (a b:List S66):List Int→Nat→Nat→List S47
  | [],_,_=> []
  | d::t,i,j=>(if d=3 then ⟨d,[b.getD j z66]⟩ else ⟨d,[a.getD i z66]⟩)::mks a b t (if d=3 then i else i+1) (if d=2 then j else j+1)
theorem mks_len (a b:List S66): ∀(t:List Int) (i j:Nat),(mks a b t i j).length=t.length∧nl (mks a b t i j)=t.length
  | [],_,_=>⟨rfl,rfl⟩
  | d::t,i,j=>by
    obtain⟨h1,h2⟩:=mks_len a b t (if d=3 then i else i+1) (if d=2 then j else j+1)
    rw [mks]
    refine⟨by rw [List.length_cons,h1,List.length_cons],?_⟩
    rw [nl_cons,h2,List.length_cons]
    split
    · show 1+_=_
      omega
    · show 1+_=_
      omega
theorem mks_ok (K a b:List S66) (ra rb:List Int) (ha:NumR K ra a) (hb:NumR K rb b): ∀(t:List Int) (i j:Nat),wk ra rb t i j→allok (mks a b t i j)=true∧side (mks a b t i j) 3=a.drop i∧side (mks a b t i j) 2=b.drop j
  | [],i,j,h=>by
    have la:=numR_len ha
    have lb:=numR_len hb
    obtain⟨h1,h2⟩:=h
    rw [List.drop_of_length_le (by omega),List.drop_of_length_le (by omega)]
    exact⟨rfl,rfl,rfl⟩
  | d::t,i,j,h=>by
    have la:=numR_len ha
    have lb:=numR_len hb
    rw [mks,allok_cons,side_cons,side_cons]
    rcases h with ⟨rfl,h1,h2,h3,h4⟩|⟨rfl,h1,h4⟩|⟨rfl,h1,h4⟩
    · obtain⟨k1,k2,k3⟩:=mks_ok K a b ra rb ha hb t _ _ h4
      have he:=numR_eq ha hb i j (by omega) (by omega) h3
      rw [if_neg (show ¬(1:Int)=3 by decide),if_neg (show ¬(1:Int)=3 by decide),if_neg (show ¬(1:Int)=2 by decide),k1,k2,k3,drop_cons a i (by omega) z66,drop_cons b j (by omega) z66, ← he]
      exact⟨rfl,rfl,rfl⟩
    · obtain⟨k1,k2,k3⟩:=mks_ok K a b ra rb ha hb t _ _ h4
      rw [if_neg (show ¬(2:Int)=3 by decide),if_neg (show ¬(2:Int)=3 by decide),if_pos (show(2:Int)=2 from rfl),k1,k2,k3,drop_cons a i (by omega) z66]
      exact⟨rfl,rfl,rfl⟩
    · obtain⟨k1,k2,k3⟩:=mks_ok K a b ra rb ha hb t _ _ h4
      rw [if_pos (show(3:Int)=3 from rfl),if_pos (show(3:Int)=3 from rfl),if_neg (show ¬(3:Int)=2 by decide),k1,k2,k3,drop_cons b j (by omega) z66]
      exact⟨rfl,rfl,rfl⟩
theorem make_l0 (a b:List S66) (ra rb s:List Int) (e:List S47) (la:ra.length=a.length) (lb:rb.length=b.length) (hs:s.length≤1000) (he:chk e=0) (hfe:Fit e): ∀(d n i j:Nat) (out:List S47),n+d=s.length→i≤n→j≤n→out.length=n→wk ra rb (s.drop n) i j→out++mks a b (s.drop n) i j=e→
    Ev (fun k=>jalousieref08_Make.l0 k a b s out (i:Int) (j:Int) (n:Int)) (script_normal.p e,0)
  | 0,n,i,j,out,h,hi,hj,ho,hw,hm=>by
    rw [List.drop_of_length_le (by omega)] at hm
    rw [mks,List.append_nil] at hm
    subst hm
    refine ev_succ ?_
    simp only [jalousieref08_Make.l0]
    refine ev_neg (by omega) (Ev.bind (rnrm_ev out hfe) (ev_some ?_))
    unfold nrm
    rw [if_pos he]
  | d+1,n,i,j,out,h,hi,hj,ho,hw,hm=>by
    rw [drop_cons s n (by omega) 0] at hw hm
    refine ev_succ ?_
    simp only [jalousieref08_Make.l0,rdn,rdL,line_eta]
    refine ev_pos (by omega) (ev_pos (by omega) ?_)
    rw [mks] at hm
    rcases hw with ⟨h0,h1,h2,h3,h4⟩|⟨h0,h1,h4⟩|⟨h0,h1,h4⟩
    · refine ev_neg (by omega) (ev_pos (by omega) (ev_pos (by omega) (ev_pos (by omega) (ev_succ ?_))))
      rw [h0] at hm ⊢
      simp only [jalousieref08_Make.j2,rdn]
      rw [w64s i (by omega),w64s j (by omega),w64s n (by omega)]
      refine ev_pos (by omega) (ev_pos (by omega) (ev_neg (by omega) (ev_neg (by omega) ?_)))
      exact make_l0 a b ra rb s e la lb hs he hfe d (n+1) (i+1) (j+1) _ (by omega) (by omega) (by omega) (by simp;omega) h4 (by rw [← hm,List.append_assoc];rfl)
    · refine ev_neg (by omega) (ev_pos (by omega) (ev_pos (by omega) (ev_pos (by omega) (ev_succ ?_))))
      rw [h0] at hm ⊢
      simp only [jalousieref08_Make.j2,rdn]
      rw [w64s i (by omega),w64s n (by omega)]
      refine ev_pos (by omega) (ev_pos (by omega) (ev_neg (by omega) (ev_pos (by omega) ?_)))
      exact make_l0 a b ra rb s e la lb hs he hfe d (n+1) (i+1) j _ (by omega) (by omega) (by omega) (by simp;omega) h4 (by rw [← hm,List.append_assoc];rfl)
    · refine ev_pos (by omega) (ev_pos (by omega) (ev_pos (by omega) (ev_pos (by omega) (ev_succ ?_))))
      rw [h0] at hm ⊢
      simp only [jalousieref08_Make.j2,rdn]
      rw [w64s j (by omega),w64s n (by omega)]
      refine ev_pos (by omega) (ev_pos (by omega) (ev_pos (by omega) (ev_neg (by omega) ?_)))
      exact make_l0 a b ra rb s e la lb hs he hfe d (n+1) i (j+1) _ (by omega) (by omega) (by omega) (by simp;omega) h4 (by rw [← hm,List.append_assoc];rfl)
theorem make_ev (a b:List S66) (ha:a.length≤400) (hb:b.length≤400): ∃e,chk e=0∧side e 3=a∧side e 2=b∧nl e≤a.length+b.length∧Ev (fun k=>jalousieref08_Make.f k a b) (script_normal.p e,0):=by
  obtain⟨K,ra,rb,n1,n2,n3⟩:=num_ev a b ha hb
  have la:=numR_len n1
  have lb:=numR_len n2
  obtain⟨t,w1,w2,w3⟩:=steps_ev ra rb (by omega) (by omega)
  obtain⟨l1,l2⟩:=mks_len a b t 0 0
  obtain⟨k1,k2,k3⟩:=mks_ok K a b ra rb n1 n2 t 0 0 w1
  have hc:chk (mks a b t 0 0)=0:=chk_zero.2 ⟨by omega,by omega,k1⟩
  have hfe:Fit (mks a b t 0 0):=⟨by omega,fun x hx=>by have:=chk_elem _ (by omega) x hx;omega⟩
  refine⟨_,hc,by rw [k2,List.drop_zero],by rw [k3,List.drop_zero],by omega,?_⟩
  unfold jalousieref08_Make.f
  refine ev_neg (by omega) ?_
  rw [decide_eq_false (by omega)]
  refine ev_succ ?_
  simp only [jalousieref08_Make.j0]
  refine ev_neg (by simp) (Ev.bind n3 (ev_pos (by simp) (ev_pos (by simp) (Ev.bind w3 ?_))))
  exact make_l0 a b ra rb t _ la lb (by omega) hc hfe t.length 0 0 0 [] (by omega) (by omega) (by omega) rfl (by rw [List.drop_zero];exact w1) (by rw [List.drop_zero];rfl)
end Go.Proofs.Ytfnbodjmmkjlcaa.H
namespace Go.Proofs.Ytfnbodjmmkjlcaa.H
open Go.RowKit Go.Proofs.YtfnbodjmmkjlcaaW.PrintWords Go.Proofs.YtfnbodjmmkjlcaaW.PrintLast Go.Proofs.YtfnbodjmmkjlcaaW.PrintMore
set_option linter.unusedVariables false
set_option linter.unusedSimpArgs false
theorem hnk_fith (c:Nat) (n:List S47) (hn:Nf n) (hl:nl n≤300):FitH (hnk c n):=by
  have h1:=hnk_nf c n hn (by omega)
  have h2:=hnk_len c n
  have h3:=nf_len n hn
  refine⟨by omega,fun g hg=>?_⟩
  obtain⟨k1,k2⟩:=h1 g hg
  exact good_fit _ (by omega) (nf_good _ k1)
theorem nf_fit (n:List S47) (hn:Nf n) (hl:nl n≤800):Fit n:=good_fit _ (by omega) (nf_good _ hn)
theorem hres_nf (n:List S47) (hn:Nf n) (hl:nl n≤800) (c:Int) (h0:0≤c) (h1:c≤20):hres n c=(hnk c.toNat n,0):=by
  unfold hres
  rw [if_pos (nf_chk n hn hl),if_neg (by omega),p_id n hn]
theorem script_ev (a b:List S66) (ha:a.length≤40) (hb:b.length≤40): ∃n,Nf n∧nl n≤80∧side n 3=a∧side n 2=b∧Ev (fun k=>jalousieref08_Make.f k a b) (n,0):=by
  obtain⟨e,h1,h2,h3,h4,h5⟩:=make_ev a b (by omega) (by omega)
  have hk:=(chk_zero.1 h1).2.2
  exact⟨_,p_nf e hk,by rw [p_nl];omega,by rw [p_side3 e hk,h2],by rw [p_side2 e hk,h3],h5⟩
theorem ofk_swp: ∀u:List S47,ofk 3 (swp u)=ofk 2 u∧ofk 2 (swp u)=ofk 3 u
  | []=>⟨rfl,rfl⟩
  | [x]=>by
    show ofk 3 [flp x]=_∧ofk 2 [flp x]=_
    rw [ofk_cons,ofk_cons,ofk_cons,ofk_cons,flp_f1]
    by_cases h2:x.f0=2
    · rw [flp_2 h2,if_pos rfl,if_pos h2,if_neg (by omega),if_neg (by omega)]
      exact⟨rfl,rfl⟩
    · by_cases h3:x.f0=3
      · rw [flp_3 h3,if_neg (by omega),if_neg h2,if_pos rfl,if_pos h3]
        exact⟨rfl,rfl⟩
      · rw [flp_1 h2 h3,if_neg h3,if_neg h2]
        exact⟨rfl,rfl⟩
  | x::y::t=>by
    by_cases h:x.f0=2∧y.f0=3
    · obtain⟨k1,k2⟩:=ofk_swp t
      rw [swp_two x y t h.1 h.2]
      simp only [ofk_cons,k1,k2]
      simp [h.1,h.2]
    · obtain⟨k1,k2⟩:=ofk_swp (y::t)
      rw [swp_one x (y::t) (fun z hz=>by simp at hz;subst hz;exact h),ofk_cons,k1,ofk_cons (s:=swp (y::t)),k2,flp_f1,ofk_cons (x:=x),ofk_cons (d:=3) (x:=x)]
      by_cases h2:x.f0=2
      · rw [flp_2 h2,if_pos rfl,if_pos h2,if_neg (by omega),if_neg (by omega)]
        exact⟨rfl,rfl⟩
      · by_cases h3:x.f0=3
        · rw [flp_3 h3,if_neg (by omega),if_neg h2,if_pos rfl,if_pos h3]
          exact⟨rfl,rfl⟩
        · rw [flp_1 h2 h3,if_neg h3,if_neg h2]
          exact⟨rfl,rfl⟩
theorem ofk_lead (d:Int) (hd:d≠1) (c:Nat) (ah:List S66):ofk d (hunk_Build.lead c ah)=0:=by
  rcases lead_cases c ah with e|⟨l,e⟩
  · rw [e]
    rfl
  · rw [e,ofk_cons,if_neg (fun h=>hd h.symm)]
    rfl
theorem ofk_trail (d:Int) (hd:d≠1) (c:Nat) (ah:List S66):ofk d (hunk_Build.trail c ah)=0:=by
  rcases trail_cases c ah with e|⟨l,e⟩
  · rw [e]
    rfl
  · rw [e,ofk_cons,if_neg (fun h=>hd h.symm)]
    rfl
theorem joins_ofk (d:Int) (hd:d≠1) (c:Nat): ∀(n:List S47) (a b:Nat) (cur:Option (Nat×Nat×List S47)) (ah:List S66),ofk d (joins (bld c n a b cur ah))=(match cur with|none=>0|some (_,_,now)=>ofk d now)+ofk d n
  | [],a,b,none,ah=>rfl
  | [],a,b,some (a0,b0,now),ah=>by simp [bld,joins,mkH,ofk]
  | x::xs,a,b,none,ah=>by
    simp only [bld]
    by_cases e1:x.f0=1
    · rw [if_pos e1,joins_ofk d hd c xs _ _ none x.f1,ofk_cons,if_neg (by omega)]
      simp only [Nat.zero_add]
    · rw [if_neg e1,joins_ofk d hd c xs _ _ (some (a-min c ah.length,b-min c ah.length,hunk_Build.lead c ah++ [x])) [],ofk_cons]
      simp only
      rw [ofk_append,ofk_lead d hd,ofk_cons]
      simp [ofk]
  | x::xs,a,b,some (a0,b0,now),ah=>by
    have hgo:ofk d (joins (bld c xs (a+ad3 x) (b+ad2 x) (some (a0,b0,now++ [x])) ah))=ofk d now+ofk d (x::xs):=by
      rw [joins_ofk d hd c xs _ _ (some (a0,b0,now++ [x])) ah,ofk_cons]
      simp only
      rw [ofk_append,ofk_cons]
      simp [ofk]
      omega
    simp only [bld]
    by_cases e1:x.f0=1
    · rw [if_pos e1]
      split
      · rw [joins_cons,ofk_append,joins_ofk d hd c xs _ _ none x.f1,ofk_cons,if_neg (by omega)]
        simp only [mkH]
        rw [ofk_append,ofk_trail d hd]
        omega
      · exact hgo
    · rw [if_neg e1]
      exact hgo
theorem hnk_ofk (d:Int) (hd:d≠1) (c:Nat) (n:List S47):ofk d (joins (hnk c n))=ofk d n:=by
  unfold hnk
  rw [joins_ofk d hd]
  simp
theorem side_ofk (n:List S47):(side n 2).length+ofk 2 n=(side n 3).length+ofk 3 n:=by
  induction n with
  | nil=>rfl
  | cons x t ih=>
    rw [side_cons,side_cons,ofk_cons,ofk_cons,List.length_append,List.length_append]
    by_cases h2:x.f0=2
    · have h3: ¬x.f0=3:=by omega
      simp only [if_pos h2,if_neg h3,List.length_nil]
      omega
    · by_cases h3:x.f0=3
      · simp only [if_neg h2,if_pos h3,List.length_nil]
        omega
      · simp only [if_neg h2,if_neg h3]
        omega
theorem hsize_ev (c:Nat) (n:List S47) (hn:Nf n) (hl:nl n≤300):Ev (fun k=>patch_Size.f k (hnk c n)) ((ofk 3 n:Nat),(ofk 2 n:Nat)):=by
  have h1:=hnk_nf c n hn (by omega)
  have h2:=hnk_len c n
  have h3:=nf_len n hn
  obtain⟨h4,h5⟩:=joins_size (hnk c n) fun h hh=>⟨Nat.le_trans (nf_len _ (h1 h hh).1) (h1 h hh).2,(h1 h hh).2⟩
  refine ev_cast (size_ev (hnk c n) (by omega) (fun h hh=>by have:=nf_len _ (h1 h hh).1;have:=(h1 h hh).2;omega) (by omega)) ?_
  rw [hnk_ofk 3 (by decide),hnk_ofk 2 (by decide)]
theorem u8_rng' {x:Int} (h:(Lit.int .u8 x).wf=true):0≤x∧x≤255:=by
  simpa [Lit.wf,IntKind.min,IntKind.max,IntKind.signed,IntKind.bits] using h
theorem ctx_rng' {x:Int} (h:(Lit.int .u8 x).wf=true):0≤Int.tmod (wrap64 x) 21∧Int.tmod (wrap64 x) 21≤20:=by
  have:=u8_rng' h
  rw [w64i x (by omega) (by omega),Int.tmod_eq_emod_of_nonneg (by omega)]
  omega
end Go.Proofs.Ytfnbodjmmkjlcaa.H
end
section
namespace Go.Proofs.Ytfnbodjmmkjlcaa.Pure
open Go.RowKit Go.Proofs.Ytfnbodjmmkjlcaa Go.Proofs.Ytfnbodjmmkjlcaa.H Go.Proofs.YtfnbodjmmkjlcaaW.PrintWords Go.Proofs.YtfnbodjmmkjlcaaW.PrintLast Go.Proofs.YtfnbodjmmkjlcaaW.PrintMore
theorem PatchTwice:jalousielaw11_PatchTwice.Pure:=by
  intro l0 l1 a _ _ ha hs0 hs1 _
  obtain⟨hc1,hc2⟩:=ctx_rng' ha
  refine Ev.rounds ?_
  unfold jalousielaw11_PatchTwice.f
  generalize Int.tmod (wrap64 a) 21=c at hc1 hc2
  have hm0:mn (l0.length:Int) 40=((min l0.length 40:Nat):Int):=min_ev _ 40
  have hm1:mn (l1.length:Int) 40=((min l1.length 40:Nat):Int):=min_ev _ 40
  rw [hm0,hm1]
  refine ev_pos (by omega) (ev_pos (by omega) ?_)
  simp only [Option.bind_some,Int.toNat_natCast]
  refine ev_pos (by omega) (ev_pos (by omega) ?_)
  have hlA:(l0.take (min l0.length 40)).length≤40:=by rw [List.length_take];omega
  have hlB:(l1.take (min l1.length 40)).length≤40:=by rw [List.length_take];omega
  generalize l0.take (min l0.length 40)=A at hlA
  generalize l1.take (min l1.length 40)=B at hlB
  obtain⟨n,n1,n2,n3,n4,n5⟩:=script_ev A B hlA hlB
  have s1:=swp_nf n n1
  have s2:=swp_nl n
  have hf:=hnk_fith c.toNat n n1 (by omega)
  have hg:=hnk_fith c.toNat _ s1 (by omega)
  refine Ev.bind n5 (Ev.bind (rbld_ev n c (nf_fit n n1 (by omega))) ?_)
  rw [hres_nf n n1 (by omega) c hc1 hc2]
  refine Ev.bind (rev_ev _ hf) ?_
  rw [rev_hnk c.toNat n n1 (by omega)]
  refine Ev.bind (rev_ev _ hg) ?_
  rw [rev_hnk c.toNat _ s1 (by omega),swp_swp n n1]
  refine Ev.bind (hsize_ev c.toNat n n1 (by omega)) (Ev.bind (hsize_ev c.toNat _ s1 (by omega)) ?_)
  obtain⟨o1,o2⟩:=ofk_swp n
  rw [o1,o2]
  refine Ev.bind live11_ev (ev_pos rfl (ev_pos rfl (ev_pos rfl (ev_pos rfl (Ev.bind (hsame_ev _ _ hf) (ev_pos (decide_eq_true rfl) (ev_pos rfl (ev_pos rfl (ev_some ?_)))))))))
  have h1:=ofk_le 3 n
  have h2:=ofk_le 2 n
  have h3:=side_ofk n
  rw [n3,n4] at h3
  simp only
  rw [w64i _ (by omega) (by omega),w64i _ (by omega) (by omega),beq_iff_eq]
  omega
end Go.Proofs.Ytfnbodjmmkjlcaa.Pure
end
