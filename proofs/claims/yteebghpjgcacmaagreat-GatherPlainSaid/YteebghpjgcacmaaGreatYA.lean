/- Scripts cut and handed to the document: what each of these functions answers. -/
import Derived.Test.YteebghpjgcacmaaGreatYTypes
import Derived.Test.YteebghpjgcacmaaGreatIdNl
set_option linter.unusedSimpArgs false
set_option linter.unusedVariables false
namespace Go.Proofs.GY
open Go Go.Idl Go.Proofs
set_option maxHeartbeats 20000000
set_option maxRecDepth 100000
structure St where
 mode:Int
 waits:List Int
 picks:List (Int × List (Int × Int))
 takes:List (Int × Int × Int)
structure Nd where
 start:Int
 states:List St
abbrev eG (N:Int) (ls:List (Int × Int)):IV:= .agg [sci .i64 N,lII ls]
def eIII (p:Int × Int × Int):List PV:= [.sc (.int .i64 p.1), .sc (.int .i64 p.2.1), .sc (.int .i64 p.2.2)]
def ePk (p:Int × List (Int × Int)):List PV:= [.sc (.int .i64 p.1), .imm 2 (pr eII p.2)]
def eSt (s:St):List PV:= [.sc (.int .i64 s.mode), .imm 1 (pr eI s.waits), .imm 2 (pr ePk s.picks), .imm 3 (pr eIII s.takes)]
def eNd (n:Nd):List PV:= [.sc (.int .i64 n.start), .imm 4 (pr eSt n.states)]
abbrev lSt (s:St):IV:= .agg [sci .i64 s.mode,lI s.waits, .p (.imm 2 (pr ePk s.picks)), .p (.imm 3 (pr eIII s.takes))]
structure Sc where
 N:Int
 ls:List (Int × Int)
 T:List Nd
 fifo:Bool
 room:Nat
 acts:List (Int × Int × Int)
abbrev lApp (s:Sc):IV:= .agg [sci .i64 s.N,lII s.ls, .p (.imm 2 (pr eNd s.T)),scb s.fifo]
def cutP (p:Int × List (Int × Int)):Int × List (Int × Int):=(p.1,p.2.take 10)
def qew (s:St):St:=⟨s.mode,s.waits.take 10,(s.picks.take 10).map cutP,s.takes.take 30⟩
theorem mn10 (n:Nat):(if(10:Int) < (n:Int) then(10:Int) else(n:Int))=((min n 10:Nat):Int):=by split<;>omega
theorem ir_snoc {α:Type} (f:α→List PV) (l:List α) (x:α):ir f (l++ [x])=ir f l++ [(f x).map .p]:=by simp [ir]
theorem qqX {α:Type} (l:List α) (c:Nat):(List.take c l).length=min l.length c:=by
 rw [List.length_take];omega
theorem tk_min {α:Type} (l:List α) (c:Nat):List.take (min l.length c) l=List.take c l:=by
 rcases Nat.le_total l.length c with h | h
 ·rw [Nat.min_eq_left h,List.take_length,List.take_of_length_le h]
 ·rw [Nat.min_eq_right h]
theorem tk_self {α:Type} (l:List α) (c:Nat):List.take (min l.length c) (List.take c l)=List.take c l:=by
 rw [←qqX,List.take_length]
theorem tk_len {α:Type} (l:List α) (c:Nat):(List.take c l).length=min l.length c:=by
 rw [List.length_take];omega
theorem qhu (N:Int) (ls:List (Int × Int)):Pure Tryz.prog 34 [eG N ls] (eG N ls):=by
 refine qaf 200 (fn:=Tryz.f34) Tryz.func34 rfl (by simp [Tryz.ntmps34]) zB zB fun hs=>?_
 (repeat(first | ((refine zW ?_;try with_reducible exact True.intro))))
theorem qmJ (N:Int) (ls:List (Int × Int)):Pure Tryz.prog 39 [eG N ls] (eG N (ls.take 40)):=by
 refine qaf 200 (fn:=Tryz.f39) Tryz.func39 rfl (by simp [Tryz.ntmps39]) zB zB fun hs=>?_
 try refine zW ?_
 by_cases h:40 < ls.length
 ·have h':(40:Int) < ls.length:=by omega
  (try simp (disch:=omega) only [go_sem,simprocAttr,zD,zE,h'])
 ·have h': ¬(40:Int) < ls.length:=by omega
  have ht:ls.take 40=ls:=List.take_of_length_le (by omega)
  (try simp (disch:=omega) only [go_sem,simprocAttr,zD,zE,h',ht])
theorem qmM (s:St):Pure Tryz.prog 84 [lSt s] (lSt (qew s)):=by
 obtain⟨mode,waits,picks,takes⟩:=s
 refine qaf 200 (fn:=Tryz.f84) Tryz.func84 rfl (by simp [Tryz.ntmps84]) zB zB fun hs=>?_
 try refine zW ?_
 (refine walk_trim [1,2,163] trivial zL ?_;refine zW ?_;refine irun_walk (id:=1) (n:=200) [none,none,some [0,1,3,4,5,6,7,8,9,12],none,none,none,none,none,none,none,some [0,1,12],none,some [0,1,2,3,4,5,6,7,8,9,10,11],some []] qap (by kernel_rfl) ?_)
 (try simp (maxSteps:=2000000) (disch:=omega) only [go_sem,simprocAttr,zD,zE,mn10,Nat.sub_zero,List.drop_zero,tk_min,tk_len])
 refine walk_ownB 3 0 2 2 trivial rfl rfl rfl (.inr rfl) ?_
 simp only [List.set_cons_zero,List.set_cons_succ,Nat.reduceAdd]
 (refine walk_trim [1,2,3,4,163] trivial zL ?_;((try refine zW ?_);(try with_reducible exact True.intro)))
 refine qad 200 200 (fun i:Nat × Nat × List (Int × List (Int × Int))=>i.1≤picks.length∧i.1≤10∧i.2.2=(picks.take i.1).map cutP)
  (fun i=>⟨74, [(1, .ptr 0 0 0 0),(2, .ptr 1 0 0 0),(3, .ptr 3 0 0 0),(4,sci .i64 i.1)], [],5,
   [(4, .arr 2 i.2.1 (ir ePk i.2.2)),(3, .arr 4 0 [[sci .i64 mode,lI (waits.take 10), .ref 4 i.2.1 0 i.2.2.length, .p (.sc (.slice none 0 0))]]),
    (1, .arr 4 0 [[sci .i64 0, .p (.sc (.slice none 0 0)), .p (.sc (.slice none 0 0)), .p (.sc (.slice none 0 0))]]),
    (0, .arr 4 0 [[sci .i64 mode,lI waits, .p (.imm 2 (pr ePk picks)), .p (.imm 3 (pr eIII takes))]])]⟩) (fun i=>10 - i.1) (0,0, []) [2] ?_ ?_ ?_
 ·simp
 ·constructor<;>(try simp (maxSteps:=2000000) (disch:=omega) only [go_sem,simprocAttr,zD,zE,Int.natCast_zero,tk_self])
 ·rintro⟨i,g,acc⟩ ⟨h1,h2,h3⟩
  simp only at h1 h2 h3
  have hal:acc.length=i:=by rw [h3];simp;omega
  try refine zW ?_
  by_cases hlt:i < picks.length∧i < 10
  ·obtain⟨hl,h10⟩:=hlt
   (try simp (maxSteps:=2000000) (disch:=omega) only [go_sem,simprocAttr,zD,zE,ePk])
   (refine walk_trim [1,2,3,4,5,163] trivial zL ?_;refine zW ?_;refine irun_walk (id:=6) (n:=200) [none,none,none,none,some [0,1,2,3,5,6,7,8,9,10,11],none,none,none,none,none,none,none,some [0,1,2,3],none,some [0,1],some [],none,some []] qap (by kernel_rfl) ?_)
   (try simp (maxSteps:=2000000) (disch:=omega) only [go_sem,simprocAttr,zD,zE,mn10,Nat.sub_zero,List.drop_zero,tk_min,tk_len,ePk])
   refine⟨(i+1,g+1,acc++ [cutP picks[i]]), [6],⟨hl,h10,?_⟩,?_,?_⟩
   ·simp only [h3]
    rw [List.take_succ_eq_append_getElem hl,List.map_append,List.map_cons,List.map_nil]
   ·simp only;omega
   ·constructor<;>(try simp (maxSteps:=2000000) (disch:=omega) only [go_sem,simprocAttr,zD,zE,cutP,tk_self,ePk,ir_snoc,List.map_cons,List.map_nil])
  ·have h10:picks.take i=picks.take 10:=by
    rcases Nat.lt_or_ge i 10 with h | h
    ·rw [List.take_of_length_le (by omega),List.take_of_length_le (by omega)]
    ·rw [show i=10 by omega]
   rw [h10] at h3
   rcases Nat.lt_or_ge i picks.length with hl | hl
   all_goals
    try refine zO ?_
    refine walk_ownB 3 0 3 3 trivial rfl rfl rfl (.inr rfl) ?_
    simp only [List.set_cons_zero,List.set_cons_succ,Nat.reduceAdd]
    (refine walk_trim [1,2,3,6,163] trivial zL ?_;((try refine zW ?_);(try with_reducible exact True.intro)))
    refine qad 200 200 (fun j:Nat × Nat=>j.1≤takes.length∧j.1≤30)
     (fun j=>⟨74, [(1, .ptr 0 0 0 0),(2, .ptr 1 0 0 0),(3, .ptr 3 0 0 0),(6,sci .i64 j.1)], [],6,
      [(5, .arr 3 j.2 (ir eIII (takes.take j.1))),(3, .arr 4 0 [[sci .i64 mode,lI (waits.take 10), .p (.imm 2 (pr ePk acc)), .ref 5 j.2 0 j.1]]),
       (1, .arr 4 0 [[sci .i64 0, .p (.sc (.slice none 0 0)), .p (.sc (.slice none 0 0)), .p (.sc (.slice none 0 0))]]),
       (0, .arr 4 0 [[sci .i64 mode,lI waits, .p (.imm 2 (pr ePk picks)), .p (.imm 3 (pr eIII takes))]])]⟩) (fun j=>30 - j.1) (0,0) [4] ?_ ?_ ?_
    ·simp
    ·constructor<;>(try simp (maxSteps:=2000000) (disch:=omega) only [go_sem,simprocAttr,zD,zE,Int.natCast_zero,List.take_zero])
    ·clear hl hlt hal h1 h2 h10
     rintro⟨j,g2⟩ ⟨k1,k2⟩
     simp only at k1 k2
     have hjl:(takes.take j).length=j:=by simp;omega
     have hjj:(takes.take j).take j=takes.take j:=List.take_of_length_le (by omega)
     try refine zW ?_
     by_cases hlt:j < takes.length∧j < 30
     ·obtain⟨hl,h30⟩:=hlt
      (try simp (maxSteps:=2000000) (disch:=omega) only [go_sem,simprocAttr,zD,zE,eIII])
      (refine walk_trim [1,2,3,6,163] trivial zL ?_;refine zW ?_;refine irun_walk (id:=10) (n:=200) [none,none,none,none,none,none,none,some [0,1],some [],none,some []] qap (by kernel_rfl) ?_)
      (try simp (maxSteps:=2000000) (disch:=omega) only [go_sem,simprocAttr,zD,zE,eIII,hjl])
      refine⟨(j+1,g2+1), [],⟨hl,h30⟩,?_,?_⟩
      ·simp only;omega
      ·constructor<;>(try simp (maxSteps:=2000000) (disch:=omega) only [go_sem,simprocAttr,zD,zE,eIII,hjj,List.take_succ_eq_append_getElem hl,ir_snoc,List.map_cons,List.map_nil])
     ·have h30:takes.take j=takes.take 30:=by
       rcases Nat.lt_or_ge j 30 with h | h
       ·rw [List.take_of_length_le (by omega),List.take_of_length_le (by omega)]
       ·rw [show j=30 by omega]
      rw [h30] at hjj
      rcases Nat.lt_or_ge j takes.length with hl | hl
      all_goals
       (try simp (maxSteps:=2000000) (disch:=omega) only [go_sem,simprocAttr,zD,zE,h30,h3,qew,hjj])
end Go.Proofs.GY
