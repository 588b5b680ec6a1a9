/-
  What the claim needs of the words, of the walks and of the plain proofs, in one row (13).
-/
import Derived.Deep.RegionHeld3
import Derived.WalkLawsBesides
import Derived.WalkSpells
import Derived.RangeFuncNested
import Derived.RangeFuncBound
import Derived.RangeFuncCalls
import Derived.RangeFuncLeaves
import Derived.RangeFuncBox
import Derived.RangeFuncMany
import Derived.Shelf.Abstract
import Derived.OwnWalkIn
import Derived.TacticsInMore
import Derived.LoopNIn
import Derived.LoopIn
import Derived.Test.YtfnbodjmmkjlcaaZ0
import Derived.Test.YtfnbodjmmkjlcaaZ1
import Derived.Test.YtfnbodjmmkjlcaaZ2
import Derived.Test.YtfnbodjmmkjlcaaZ3
import Derived.Test.YtfnbodjmmkjlcaaZ4
import Derived.Test.YtfnbodjmmkjlcaaZ5
import Derived.Test.YtfnbodjmmkjlcaaZ6
import Derived.Test.YtfnbodjmmkjlcaaZ7
import Derived.Test.YtfnbodjmmkjlcaaZ8
import Derived.Test.YtfnbodjmmkjlcaaZ9
import Derived.Test.YtfnbodjmmkjlcaaZ10
import Derived.Test.YtfnbodjmmkjlcaaZ11
import Derived.Test.YtfnbodjmmkjlcaaZ12
section
namespace Go.Proofs.Ytfnbodjmmkjlcaa.Pure
open Go.RowKit Go.Proofs.Ytfnbodjmmkjlcaa Go.Proofs.Ytfnbodjmmkjlcaa.H Go.Proofs.YtfnbodjmmkjlcaaW.PrintWords Go.Proofs.YtfnbodjmmkjlcaaW.PrintLast Go.Proofs.YtfnbodjmmkjlcaaW.PrintMore
theorem PatchBack:jalousielaw11_PatchBack.Pure:=by
  intro l0 l1 a _ _ ha hs0 hs1 _
  obtain⟨hc1,hc2⟩:=ctx_rng' ha
  refine Ev.rounds ?_
  unfold jalousielaw11_PatchBack.f
  generalize Int.tmod (wrap64 a) 21=c at hc1 hc2
  have hm0:mn (l0.length:Int) 40=((min l0.length 40:Nat):Int):=min_ev _ 40
  have hm1:mn (l1.length:Int) 40=((min l1.length 40:Nat):Int):=min_ev _ 40
  have hz0:=szl_of l0 hs0.2
  have hz1:=szl_of l1 hs1.2
  have hA0:SzL (l0.take (min l0.length 40)):=fun y hy=>hz0 y (List.mem_of_mem_take hy)
  have hB0:SzL (l1.take (min l1.length 40)):=fun y hy=>hz1 y (List.mem_of_mem_take hy)
  rw [hm0,hm1]
  refine ev_pos (by omega) (ev_pos (by omega) ?_)
  simp only [Option.bind_some,Int.toNat_natCast]
  refine ev_pos (by omega) (ev_pos (by omega) ?_)
  have hlA:(l0.take (min l0.length 40)).length≤40:=by rw [List.length_take];omega
  have hlB:(l1.take (min l1.length 40)).length≤40:=by rw [List.length_take];omega
  generalize l0.take (min l0.length 40)=A at hA0 hlA
  generalize l1.take (min l1.length 40)=B at hB0 hlB
  obtain⟨n,n1,n2,n3,n4,n5⟩:=script_ev A B hlA hlB
  refine Ev.bind n5 (Ev.bind (rbld_ev n c (nf_fit n n1 (by omega))) ?_)
  rw [hres_nf n n1 (by omega) c hc1 hc2]
  have hf:=hnk_fith c.toNat n n1 (by omega)
  refine Ev.bind (papply_ev _ A hf) (ev_pos rfl (Ev.bind (rright_ev B (by omega) hB0) ?_))
  have hw:=wh_hnk c.toNat n n1 (by omega)
  rw [n3,n4] at hw
  rw [hw]
  by_cases h:rgt B=true
  · rw [if_pos h]
    refine ev_pos h (Ev.bind (rev_ev _ hf) ?_)
    rw [rev_hnk c.toNat n n1 (by omega)]
    have s1:=swp_nf n n1
    have s2:=swp_nl n
    refine Ev.bind (papply_ev _ B (hnk_fith c.toNat _ s1 (by omega))) ?_
    have hw2:=wh_hnk c.toNat (swp n) s1 (by omega)
    rw [swp_side3,swp_side2,n3,n4] at hw2
    rw [hw2]
    refine ev_pos rfl (Ev.bind (lsame_ev B B (by omega)) (ev_pos (decide_eq_true rfl) (ev_succ ?_)))
    simp only [jalousielaw11_PatchBack.j0]
    refine ev_neg (by simp) (Ev.bind live11_ev (ev_pos rfl ?_))
    by_cases g:rgt A=true
    · rw [if_pos g]
      exact ev_pos rfl (Ev.bind (lsame_ev A A (by omega)) (ev_pos (decide_eq_true rfl) (ev_some rfl)))
    · rw [if_neg g]
      refine ev_neg (show ¬(3:Int)=0 by decide) (ev_pos rfl (Ev.bind (rright_ev A (by omega) hA0) (ev_some ?_)))
      rw [Bool.eq_false_iff.2 g]
      rfl
  · rw [if_neg h]
    exact ev_neg h (Ev.bind live11_ev (ev_pos rfl (ev_pos rfl (ev_some rfl))))
end Go.Proofs.Ytfnbodjmmkjlcaa.Pure
end
