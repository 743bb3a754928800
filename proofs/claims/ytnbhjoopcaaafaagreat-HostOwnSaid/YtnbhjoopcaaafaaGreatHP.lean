/- Hosts cut, handed to the document, told as pieces. -/
import Derived.Test.YtnbhjoopcaaafaaGreatHA
import Derived.Test.YtnbhjoopcaaafaaGreatIdNl
import Derived.Test.YtnbhjoopcaaafaaGreatIdGr
set_option linter.unusedSimpArgs false
set_option linter.unusedVariables false
namespace Go.Proofs.HO
open Go Go.Idl Go.Proofs
set_option maxHeartbeats 20000000
set_option maxRecDepth 100000
structure Hs where
 node:Int
 state:Int
 steps:Int
 inn:List (List (Int × Int))
 out:List (List Int)
structure Pc where
 node:Int
 state:Int
 steps:Int
 sent:List Int
 inn:List (List (Int × Int))
 out:List (List Int)
def eMs (l:List (Int × Int)):List PV:= [.imm 2 (pr eII l)]
def eLs (l:List Int):List PV:= [.imm 1 (pr eI l)]
abbrev lMs (l:List (List (Int × Int))):IV:= .p (.imm 1 (pr eMs l))
abbrev lLs (l:List (List Int)):IV:= .p (.imm 1 (pr eLs l))
abbrev lHs (h:Hs):IV:= .agg [sci .i64 h.node,sci .i64 h.state,sci .i64 h.steps,lMs h.inn,lLs h.out]
abbrev lPc (p:Pc):IV:= .agg [sci .i64 p.node,sci .i64 p.state,sci .i64 p.steps,lI p.sent,lMs p.inn,lLs p.out]
abbrev nil0:IV:= .p (.sc (.slice none 0 0))
abbrev toldHs (h:Hs):IV:= .agg [sci .i64 h.node,sci .i64 h.state,sci .i64 h.steps,nil0,lMs h.inn,lLs h.out]
def cutHs (h:Hs):Hs:=⟨h.node,h.state,h.steps,(h.inn.take 7).map (·.take 20),(h.out.take 7).map (·.take 20)⟩
theorem mn20 (n:Nat):(if(20:Int) < (n:Int) then(20:Int) else(n:Int))=((min n 20:Nat):Int):=by split<;>omega
theorem L9Ref_spec (h:Hs):Pure Tryz.prog 18 [lHs h] (lHs h):=by
 refine pcall0 200 (fn:=Tryz.f18) Tryz.func18 rfl (by simp [Tryz.ntmps18]) zB zB fun hs=>?_
 (repeat(first | ((refine zW ?_;try with_reducible exact True.intro))))
theorem told_spec (h:Hs):Pure Tryz.prog 56 [lHs h] (toldHs h):=by
 refine pcall0 200 (fn:=Tryz.f56) Tryz.func56 rfl (by simp [Tryz.ntmps56]) zB zB fun hs=>?_
 (repeat(first | ((refine zW ?_;try with_reducible exact True.intro))))
theorem L9cut_spec (h:Hs):Pure Tryz.prog 33 [lHs h] (lHs (cutHs h)):=by
 obtain⟨node,state,steps,inn,out⟩:=h
 refine pcall0 200 (fn:=Tryz.f33) Tryz.func33 rfl (by simp [Tryz.ntmps33]) zB zB fun hs=>?_
 ((try refine zW ?_);(try with_reducible exact True.intro))
 refine walk_ownB 2 0 3 1 trivial rfl rfl rfl (.inr rfl) ?_
 simp only [List.set_cons_zero,List.set_cons_succ,Nat.reduceAdd]
 (refine walk_trim [1,2,3,4,40] trivial zL ?_;((try refine zW ?_);(try with_reducible exact True.intro)))
 refine walk_floop 200 200 (fun i:Nat × Nat × List (List (Int × Int))=>i.1≤inn.length∧i.1≤7∧i.2.2=(inn.take i.1).map (·.take 20))
  (fun i=>⟨76, [(1, .ptr 0 0 0 0),(2, .ptr 1 0 0 0),(3, .ptr 2 0 0 0),(4,sci .i64 i.1)], [],4,
   [(3, .arr 1 i.2.1 (ir eMs i.2.2)),(2, .arr 5 0 [[sci .i64 node,sci .i64 state,sci .i64 steps, .ref 3 i.2.1 0 i.2.2.length, .p (.sc (.slice none 0 0))]]),
    (1, .arr 5 0 [[sci .i64 0,sci .i64 0,sci .i64 0, .p (.sc (.slice none 0 0)), .p (.sc (.slice none 0 0))]]),
    (0, .arr 5 0 [[sci .i64 node,sci .i64 state,sci .i64 steps,lMs inn,lLs out]])]⟩) (fun i=>7 - i.1) (0,0, []) [] ?_ ?_ ?_
 ·simp
 ·constructor<;>(try simp (maxSteps:=2000000) (disch:=omega) only [go_sem,simprocAttr,zD,zE,Int.natCast_zero,tk_self])
 ·rintro⟨i,g,acc⟩ ⟨h1,h2,h3⟩
  simp only at h1 h2 h3
  have hal:acc.length=i:=by rw [h3];simp;omega
  ((try refine zW ?_);(try with_reducible exact True.intro))
  by_cases hlt:i < inn.length∧i < 7
  ·obtain⟨hl,h7⟩:=hlt
   (try simp (maxSteps:=2000000) (disch:=omega) only [go_sem,simprocAttr,zD,zE,eMs])
   (refine walk_trim [1,2,3,4] trivial zL ?_;(refine zW ?_;try with_reducible exact True.intro);refine irun_walk (id:=5) (n:=200) [none,none,some [0,1,3,4,5,6,7,8,9,10,11,12,13,14,15],none,none,none,none,none,none,none,none,none,none,none,none,none,some [0,1],some [0,1],some [],none,some []] mixed (by kernel_rfl) ?_)
   (try simp (maxSteps:=2000000) (disch:=omega) only [go_sem,simprocAttr,zD,zE,mn20,Nat.sub_zero,List.drop_zero,tk_min,tk_len,eMs])
   refine⟨(i+1,g+1,acc++ [inn[i].take 20]), [4],⟨hl,h7,?_⟩,?_,?_⟩
   ·simp only [h3]
    rw [List.take_succ_eq_append_getElem hl,List.map_append,List.map_cons,List.map_nil]
   ·simp only;omega
   ·constructor<;>(try simp (maxSteps:=2000000) (disch:=omega) only [go_sem,simprocAttr,zD,zE,tk_self,eMs,ir_snoc,List.map_cons,List.map_nil])
  ·have h7:inn.take i=inn.take 7:=by
    rcases Nat.lt_or_ge i 7 with h | h
    ·rw [List.take_of_length_le (by omega),List.take_of_length_le (by omega)]
    ·rw [show i=7 by omega]
   rw [h7] at h3
   rcases Nat.lt_or_ge i inn.length with hl | hl
   all_goals
    ((try refine zO ?_);(try with_reducible exact True.intro))
    refine walk_ownB 2 0 4 1 trivial rfl rfl rfl (.inr rfl) ?_
    simp only [List.set_cons_zero,List.set_cons_succ,Nat.reduceAdd]
    (refine walk_trim [1,2,3,5,40] trivial zL ?_;((try refine zW ?_);(try with_reducible exact True.intro)))
    refine walk_floop 200 200 (fun j:Nat × Nat × List (List Int)=>j.1≤out.length∧j.1≤7∧j.2.2=(out.take j.1).map (·.take 20))
     (fun j=>⟨76, [(1, .ptr 0 0 0 0),(2, .ptr 1 0 0 0),(3, .ptr 2 0 0 0),(5,sci .i64 j.1)], [],5,
      [(4, .arr 1 j.2.1 (ir eLs j.2.2)),(2, .arr 5 0 [[sci .i64 node,sci .i64 state,sci .i64 steps,lMs acc, .ref 4 j.2.1 0 j.2.2.length]]),
       (1, .arr 5 0 [[sci .i64 0,sci .i64 0,sci .i64 0, .p (.sc (.slice none 0 0)), .p (.sc (.slice none 0 0))]]),
       (0, .arr 5 0 [[sci .i64 node,sci .i64 state,sci .i64 steps,lMs inn,lLs out]])]⟩) (fun j=>7 - j.1) (0,0, []) [3] ?_ ?_ ?_
    ·simp
    ·constructor<;>(try simp (maxSteps:=2000000) (disch:=omega) only [go_sem,simprocAttr,zD,zE,Int.natCast_zero,List.take_zero])
    ·clear hl hlt hal h1 h2 h7
     rintro⟨j,g2,acc2⟩ ⟨k1,k2,k3⟩
     simp only at k1 k2 k3
     have hal2:acc2.length=j:=by rw [k3];simp;omega
     ((try refine zW ?_);(try with_reducible exact True.intro))
     by_cases hlt:j < out.length∧j < 7
     ·obtain⟨hl,hj7⟩:=hlt
      (try simp (maxSteps:=2000000) (disch:=omega) only [go_sem,simprocAttr,zD,zE,eLs])
      (refine walk_trim [1,2,3,5,40] trivial zL ?_;(refine zW ?_;try with_reducible exact True.intro);refine irun_walk (id:=9) (n:=200) [none,none,some [0,1,3,4,5,6,7,8,9,10,11,12,13,14,15],none,none,none,none,none,none,none,none,none,none,none,none,none,some [0,1],some [0,1],some [],none,some []] mixed (by kernel_rfl) ?_)
      (try simp (maxSteps:=2000000) (disch:=omega) only [go_sem,simprocAttr,zD,zE,mn20,Nat.sub_zero,List.drop_zero,tk_min,tk_len,eLs])
      refine⟨(j+1,g2+1,acc2++ [out[j].take 20]), [5],⟨hl,hj7,?_⟩,?_,?_⟩
      ·simp only [k3]
       rw [List.take_succ_eq_append_getElem hl,List.map_append,List.map_cons,List.map_nil]
      ·simp only;omega
      ·constructor<;>(try simp (maxSteps:=2000000) (disch:=omega) only [go_sem,simprocAttr,zD,zE,tk_self,eLs,ir_snoc,List.map_cons,List.map_nil])
     ·have hj7:out.take j=out.take 7:=by
       rcases Nat.lt_or_ge j 7 with h | h
       ·rw [List.take_of_length_le (by omega),List.take_of_length_le (by omega)]
       ·rw [show j=7 by omega]
      rw [hj7] at k3
      rcases Nat.lt_or_ge j out.length with hl | hl
      all_goals
       (try simp (maxSteps:=2000000) (disch:=omega) only [go_sem,simprocAttr,zD,zE,h3,k3,cutHs])
end Go.Proofs.HO
