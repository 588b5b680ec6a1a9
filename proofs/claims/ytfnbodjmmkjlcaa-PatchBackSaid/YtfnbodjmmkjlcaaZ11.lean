/-
  What the claim needs of the words, of the walks and of the plain proofs, in one row (11).
-/
import Derived.Test.YtfnbodjmmkjlcaaZ0
import Derived.Test.YtfnbodjmmkjlcaaZ1
import Derived.Test.YtfnbodjmmkjlcaaZ2
import Derived.Test.YtfnbodjmmkjlcaaZ3
import Derived.Test.YtfnbodjmmkjlcaaZ10
section
namespace Go.Proofs.Ytfnbodjmmkjlcaa.H
open Go.RowKit Go.Proofs.YtfnbodjmmkjlcaaW.PrintWords Go.Proofs.YtfnbodjmmkjlcaaW.PrintLast Go.Proofs.YtfnbodjmmkjlcaaW.PrintMore
attribute [local go_sem] max2_int min2_int max_two min_two max_three min_three max_four min_four
set_option linter.unusedVariables false
set_option linter.unusedSimpArgs false
mutual
def jalousieref09_Check.l0:Nat→List (S44)→Int→Option (Int)
 | 0,_,_=>none
 | k+1,x0,x3=>if x3<(x0.length:Int) then (if 0≤x3 then ((jalousieref08_Check.f k ((rd_T44 x0 x3).f4)).bind fun t287=>(if t287=4 then (some 4) else (jalousieref09_Check.l0 k x0 (wrap64 (x3+1))))) else (none)) else (jalousieref09_Check.l1 k x0 0)
def jalousieref09_Check.l1:Nat→List (S44)→Int→Option (Int)
 | 0,_,_=>none
 | k+1,x0,x4=>if x4<(x0.length:Int) then (if 0≤x4 then ((jalousieref08_Normal.f k ((rd_T44 x0 x4).f4)).bind fun bt290=>(if bt290.2=0 then ((jalousieref08_Same.f k bt290.1 ((rd_T44 x0 x4).f4)).bind fun t294=>(if t294=true then ((jalousieref08_Changed.f k bt290.1).bind fun t295=>(jalousieref09_Check.j2 k x0 x4 bt290.1 (t295==0) ((rd_T44 x0 x4).f0) ((rd_T44 x0 x4).f1) ((rd_T44 x0 x4).f2) ((rd_T44 x0 x4).f3) ((rd_T44 x0 x4).f4))) else (jalousieref09_Check.j2 k x0 x4 bt290.1 true ((rd_T44 x0 x4).f0) ((rd_T44 x0 x4).f1) ((rd_T44 x0 x4).f2) ((rd_T44 x0 x4).f3) ((rd_T44 x0 x4).f4)))) else (jalousieref09_Check.j2 k x0 x4 bt290.1 true ((rd_T44 x0 x4).f0) ((rd_T44 x0 x4).f1) ((rd_T44 x0 x4).f2) ((rd_T44 x0 x4).f3) ((rd_T44 x0 x4).f4)))) else (none)) else (some 0)
def jalousieref09_Check.j2:Nat→List (S44)→Int→List (S47)→Bool→Int→Int→Int→Int→List (S47)→Option (Int)
 | 0,_,_,_,_,_,_,_,_,_=>none
 | k+1,x0,x4,x6,x58,x290000,x290001,x290002,x290003,x290004=>if x58=true then (some 3) else ((jalousieref08_Sides.f k x6).bind fun bt296=>(if x290001=(bt296.1.length:Int) then (if x290003=(bt296.2.1.length:Int) then (if x290001>400 then (jalousieref09_Check.j3 k x0 x4 true x290000 x290001 x290002 x290003 x290004) else (if x290003>400 then (jalousieref09_Check.j3 k x0 x4 true x290000 x290001 x290002 x290003 x290004) else (if x290000<0 then (jalousieref09_Check.j3 k x0 x4 true x290000 x290001 x290002 x290003 x290004) else (if x290000>400 then (jalousieref09_Check.j3 k x0 x4 true x290000 x290001 x290002 x290003 x290004) else (if x290002<0 then (jalousieref09_Check.j3 k x0 x4 true x290000 x290001 x290002 x290003 x290004) else (jalousieref09_Check.j3 k x0 x4 (decide (x290002>400)) x290000 x290001 x290002 x290003 x290004)))))) else (jalousieref09_Check.j3 k x0 x4 true x290000 x290001 x290002 x290003 x290004)) else (jalousieref09_Check.j3 k x0 x4 true x290000 x290001 x290002 x290003 x290004)))
def jalousieref09_Check.j3:Nat→List (S44)→Int→Bool→Int→Int→Int→Int→List (S47)→Option (Int)
 | 0,_,_,_,_,_,_,_,_=>none
 | k+1,x0,x4,x106,x290000,x290001,x290002,x290003,x290004=>if x106=true then (some 3) else (if x4>0 then (if 0≤(wrap64 (x4-1)) then (if (wrap64 (x4-1))<(x0.length:Int) then (if x290000<(wrap64 (((rd_T44 x0 (wrap64 (x4-1))).f0)+((rd_T44 x0 (wrap64 (x4-1))).f1))) then (some 3) else (if (wrap64 (x290000-(wrap64 (((rd_T44 x0 (wrap64 (x4-1))).f0)+((rd_T44 x0 (wrap64 (x4-1))).f1)))))=(wrap64 (x290002-(wrap64 (((rd_T44 x0 (wrap64 (x4-1))).f2)+((rd_T44 x0 (wrap64 (x4-1))).f3))))) then (jalousieref09_Check.l1 k x0 (wrap64 (x4+1))) else (some 3))) else (none)) else (none)) else (if x290000<0 then (some 3) else (if (wrap64 (x290000-0))=(wrap64 (x290002-0)) then (jalousieref09_Check.l1 k x0 (wrap64 (x4+1))) else (some 3))))
end
end Go.Proofs.Ytfnbodjmmkjlcaa.H
end
