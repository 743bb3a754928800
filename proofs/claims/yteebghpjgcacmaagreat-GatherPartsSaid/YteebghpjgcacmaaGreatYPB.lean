/- Facts that the proofs of this claim lean on. -/
import Derived.Test.YteebghpjgcacmaaGreatYTypes
import Derived.Test.YteebghpjgcacmaaGreatIdNl
set_option linter.unusedSimpArgs false
set_option linter.unusedVariables false
/- Pieces cut and handed to the document. -/
namespace Go.Proofs.GY
open Go Go.Idl Go.Proofs
set_option maxHeartbeats 20000000
set_option maxRecDepth 100000
structure Pc where
 node:Int
 state:Int
 steps:Int
 sent:List Int
 inn:List (List (Int × Int))
 out:List (List Int)
def eMs (l:List (Int × Int)):List PV:= [.imm 2 (pr eII l)]
def eLs (l:List Int):List PV:= [.imm 1 (pr eI l)]
def ePc (p:Pc):List PV:= [.sc (.int .i64 p.node), .sc (.int .i64 p.state), .sc (.int .i64 p.steps), .imm 1 (pr eI p.sent), .imm 1 (pr eMs p.inn), .imm 1 (pr eLs p.out)]
abbrev lMs (l:List (List (Int × Int))):IV:= .p (.imm 1 (pr eMs l))
abbrev lLs (l:List (List Int)):IV:= .p (.imm 1 (pr eLs l))
abbrev lPc (p:Pc):IV:= .agg [sci .i64 p.node,sci .i64 p.state,sci .i64 p.steps,lI p.sent,lMs p.inn,lLs p.out]
abbrev lPs (l:List Pc):IV:= .p (.imm 6 (pr ePc l))
def cutPc (p:Pc):Pc:=⟨p.node,p.state,p.steps,p.sent.take 7,(p.inn.take 7).map (·.take 20),(p.out.take 7).map (·.take 20)⟩
theorem mn7 (n:Nat):(if(7:Int) < (n:Int) then(7:Int) else(n:Int))=((min n 7:Nat):Int):=by split<;>omega
theorem mn20 (n:Nat):(if(20:Int) < (n:Int) then(20:Int) else(n:Int))=((min n 20:Nat):Int):=by split<;>omega
theorem ir_snoc {α:Type} (f:α→List PV) (l:List α) (x:α):ir f (l++ [x])=ir f l++ [(f x).map .p]:=by simp [ir]
theorem tk_min {α:Type} (l:List α) (c:Nat):List.take (min l.length c) l=List.take c l:=by
 rcases Nat.le_total l.length c with h | h
 ·rw [Nat.min_eq_left h,List.take_length,List.take_of_length_le h]
 ·rw [Nat.min_eq_right h]
theorem tk_len {α:Type} (l:List α) (c:Nat):(List.take c l).length=min l.length c:=by
 rw [List.length_take];omega
theorem tk_self {α:Type} (l:List α) (c:Nat):List.take (min l.length c) (List.take c l)=List.take c l:=by
 rw [←tk_len,List.take_length]
theorem L6Ref_spec (p:Pc):Pure Tryz.prog 43 [lPc p] (lPc p):=by
 refine pcall0 200 (fn:=Tryz.f43) Tryz.func43 rfl (by simp [Tryz.ntmps43]) zB zB fun hs=>?_
 (repeat(first | ((refine zW ?_;try with_reducible exact True.intro))))
theorem L6Cut_spec (p:Pc):Pure Tryz.prog 41 [lPc p] (lPc (cutPc p)):=by
 obtain⟨node,state,steps,sent,inn,out⟩:=p
 refine pcall0 200 (fn:=Tryz.f41) Tryz.func41 rfl (by simp [Tryz.ntmps41]) zB zB fun hs=>?_
 ((try refine zW ?_);(try with_reducible exact True.intro))
 (refine walk_trim [1,2,68] trivial zL ?_;(refine zW ?_;try with_reducible exact True.intro);refine irun_walk (id:=1) (n:=200) [none,none,none,none,none,none,some [0,1,2,3,4,5,7,8,9,10,11,12,13,16],none,none,none,none,none,none,none,some [0,1,2,3,4,5,16],none,some [0,1,2,3,4,5,6,7,8,9,10,11,12,13,14,15],some []] mixed (by kernel_rfl) ?_)
 (try simp (maxSteps:=2000000) (disch:=omega) only [go_sem,simprocAttr,zD,zE,mn7,Nat.sub_zero,List.drop_zero,tk_min,tk_len])
 refine walk_ownB 3 0 4 1 trivial rfl rfl rfl (.inr rfl) ?_
 simp only [List.set_cons_zero,List.set_cons_succ,Nat.reduceAdd]
 (refine walk_trim [1,2,3,4,68] trivial zL ?_;((try refine zW ?_);(try with_reducible exact True.intro)))
 refine walk_floop 200 200 (fun i:Nat × Nat × List (List (Int × Int))=>i.1≤inn.length∧i.1≤7∧i.2.2=(inn.take i.1).map (·.take 20))
  (fun i=>⟨85, [(1, .ptr 0 0 0 0),(2, .ptr 1 0 0 0),(3, .ptr 3 0 0 0),(4,sci .i64 i.1)], [],5,
   [(4, .arr 1 i.2.1 (ir eMs i.2.2)),(3, .arr 6 0 [[sci .i64 node,sci .i64 state,sci .i64 steps,lI (sent.take 7), .ref 4 i.2.1 0 i.2.2.length, .p (.sc (.slice none 0 0))]]),
    (1, .arr 6 0 [[sci .i64 0,sci .i64 0,sci .i64 0, .p (.sc (.slice none 0 0)), .p (.sc (.slice none 0 0)), .p (.sc (.slice none 0 0))]]),
    (0, .arr 6 0 [[sci .i64 node,sci .i64 state,sci .i64 steps,lI sent,lMs inn,lLs out]])]⟩) (fun i=>7 - i.1) (0,0, []) [2] ?_ ?_ ?_
 ·simp
 ·constructor<;>(try simp (maxSteps:=2000000) (disch:=omega) only [go_sem,simprocAttr,zD,zE,Int.natCast_zero,tk_self])
 ·rintro⟨i,g,acc⟩ ⟨h1,h2,h3⟩
  simp only at h1 h2 h3
  have hal:acc.length=i:=by rw [h3];simp;omega
  ((try refine zW ?_);(try with_reducible exact True.intro))
  by_cases hlt:i < inn.length∧i < 7
  ·obtain⟨hl,h7⟩:=hlt
   (try simp (maxSteps:=2000000) (disch:=omega) only [go_sem,simprocAttr,zD,zE,eMs])
   (refine walk_trim [1,2,3,4,68] trivial zL ?_;(refine zW ?_;try with_reducible exact True.intro);refine irun_walk (id:=5) (n:=200) [none,none,some [0,1,3,4,5,6,7,8,9,10,11,12,13,14,15],none,none,none,none,none,none,none,none,none,none,none,none,none,some [0,1],some [0,1],some [],none,some []] mixed (by kernel_rfl) ?_)
   (try simp (maxSteps:=2000000) (disch:=omega) only [go_sem,simprocAttr,zD,zE,mn20,Nat.sub_zero,List.drop_zero,tk_min,tk_len,eMs])
   refine⟨(i+1,g+1,acc++ [inn[i].take 20]), [5],⟨hl,h7,?_⟩,?_,?_⟩
   ·simp only [h3]
    rw [List.take_succ_eq_append_getElem hl,List.map_append,List.map_cons,List.map_nil]
   ·simp only;omega
   ·constructor<;>(try simp (maxSteps:=2000000) (disch:=omega) only [go_sem,simprocAttr,zD,zE,tk_self,eMs,ir_snoc,List.map_cons,List.map_nil])
  ·have h7:inn.take i=inn.take 7:=by
    rcases Nat.lt_or_ge i 7 with h | h
    ·rw [List.take_of_length_le (by omega),List.take_of_length_le (by omega)]
    ·rw [show i=7 by omega]
   rw [h7] at h3
   rcases Nat.lt_or_ge i inn.length with hl | hl
   all_goals
    ((try refine zO ?_);(try with_reducible exact True.intro))
    refine walk_ownB 3 0 5 1 trivial rfl rfl rfl (.inr rfl) ?_
    simp only [List.set_cons_zero,List.set_cons_succ,Nat.reduceAdd]
    (refine walk_trim [1,2,3,5,68] trivial zL ?_;((try refine zW ?_);(try with_reducible exact True.intro)))
    refine walk_floop 200 200 (fun j:Nat × Nat × List (List Int)=>j.1≤out.length∧j.1≤7∧j.2.2=(out.take j.1).map (·.take 20))
     (fun j=>⟨85, [(1, .ptr 0 0 0 0),(2, .ptr 1 0 0 0),(3, .ptr 3 0 0 0),(5,sci .i64 j.1)], [],6,
      [(5, .arr 1 j.2.1 (ir eLs j.2.2)),(3, .arr 6 0 [[sci .i64 node,sci .i64 state,sci .i64 steps,lI (sent.take 7),lMs acc, .ref 5 j.2.1 0 j.2.2.length]]),
       (1, .arr 6 0 [[sci .i64 0,sci .i64 0,sci .i64 0, .p (.sc (.slice none 0 0)), .p (.sc (.slice none 0 0)), .p (.sc (.slice none 0 0))]]),
       (0, .arr 6 0 [[sci .i64 node,sci .i64 state,sci .i64 steps,lI sent,lMs inn,lLs out]])]⟩) (fun j=>7 - j.1) (0,0, []) [4] ?_ ?_ ?_
    ·simp
    ·constructor<;>(try simp (maxSteps:=2000000) (disch:=omega) only [go_sem,simprocAttr,zD,zE,Int.natCast_zero,List.take_zero])
    ·clear hl hlt hal h1 h2 h7
     rintro⟨j,g2,acc2⟩ ⟨k1,k2,k3⟩
     simp only at k1 k2 k3
     have hal2:acc2.length=j:=by rw [k3];simp;omega
     ((try refine zW ?_);(try with_reducible exact True.intro))
     by_cases hlt:j < out.length∧j < 7
     ·obtain⟨hl,hj7⟩:=hlt
      (try simp (maxSteps:=2000000) (disch:=omega) only [go_sem,simprocAttr,zD,zE,eLs])
      (refine walk_trim [1,2,3,5] trivial zL ?_;(refine zW ?_;try with_reducible exact True.intro);refine irun_walk (id:=9) (n:=200) [none,none,some [0,1,3,4,5,6,7,8,9,10,11,12,13,14,15],none,none,none,none,none,none,none,none,none,none,none,none,none,some [0,1],some [0,1],some [],none,some []] mixed (by kernel_rfl) ?_)
      (try simp (maxSteps:=2000000) (disch:=omega) only [go_sem,simprocAttr,zD,zE,mn20,Nat.sub_zero,List.drop_zero,tk_min,tk_len,eLs])
      refine⟨(j+1,g2+1,acc2++ [out[j].take 20]), [6],⟨hl,hj7,?_⟩,?_,?_⟩
      ·simp only [k3]
       rw [List.take_succ_eq_append_getElem hl,List.map_append,List.map_cons,List.map_nil]
      ·simp only;omega
      ·constructor<;>(try simp (maxSteps:=2000000) (disch:=omega) only [go_sem,simprocAttr,zD,zE,tk_self,eLs,ir_snoc,List.map_cons,List.map_nil])
     ·have hj7:out.take j=out.take 7:=by
       rcases Nat.lt_or_ge j 7 with h | h
       ·rw [List.take_of_length_le (by omega),List.take_of_length_le (by omega)]
       ·rw [show j=7 by omega]
      rw [hj7] at k3
      rcases Nat.lt_or_ge j out.length with hl | hl
      all_goals
       (try simp (maxSteps:=2000000) (disch:=omega) only [go_sem,simprocAttr,zD,zE,h3,k3,cutPc])
end Go.Proofs.GY
/- Pieces compared by the document, handed to it, cut. -/
namespace Go.Proofs.GY
open Go Go.Idl Go.Proofs
set_option maxHeartbeats 20000000
set_option maxRecDepth 100000
theorem Ints_spec (a b:List Int):Pure Tryz.prog 16 [lI a,lI b] (scb (a==b)):=by
 refine pcall0 200 (fn:=Tryz.f16) Tryz.func16 rfl (by simp [Tryz.ntmps16]) zB zB fun hs=>?_
 simp only [go_sem,simprocAttr,maxLen] at hs
 obtain⟨⟨ha, -⟩,hb, -⟩:=hs
 ((try refine zW ?_);(try with_reducible exact True.intro))
 by_cases hn:a.length=b.length
 ·((try refine zO ?_);(try with_reducible exact True.intro))
  refine walk_loop 200 200 (fun i:Nat=>i≤a.length∧a.take i=b.take i) (fun i=>⟨26, [(0,lI a),(1,lI b),(5,sci .i64 i)], [],0, []⟩) (fun i=>a.length - i) 0 ?_ ?_ ?_
  ·simp
  ·constructor<;>(try simp only [go_sem,simprocAttr,Int.natCast_zero])
  ·rintro i ⟨hi,he⟩
   ((try refine zW ?_);(try with_reducible exact True.intro))
   by_cases hb:i < a.length
   ·((try refine zO ?_);(try with_reducible exact True.intro))
    (refine walk_trim [0,1,5] trivial zL ?_;(refine zW ?_;try with_reducible exact True.intro);refine irun_walk (id:=6) (n:=200) [none,none,none,none,none,none,none,none,none] mixed (by kernel_rfl) ?_)
    (try simp (disch:=omega) only [go_sem,simprocAttr,zD,zE,eI])
    by_cases hc:a[i]=b[i]
    ·((try refine zO ?_);(try with_reducible exact True.intro))
     refine⟨i+1,⟨hb,?_⟩,by omega,?_⟩
     ·rw [List.take_succ_eq_append_getElem hb,List.take_succ_eq_append_getElem (by omega),he,hc]
     ·constructor<;>((try refine zW ?_);(try with_reducible exact True.intro))
    ·((try refine zO ?_);(try with_reducible exact True.intro))
     symm
     rw [beq_eq_false_iff_ne]
     rintro rfl
     exact hc rfl
   ·((try refine zO ?_);(try with_reducible exact True.intro))
    obtain rfl:i=a.length:=by omega
    rw [List.take_length,hn,List.take_length] at he
    simp [he]
 ·((try refine zO ?_);(try with_reducible exact True.intro))
  symm
  rw [beq_eq_false_iff_ne]
  rintro rfl
  exact hn rfl
theorem Msgs_spec (a b:List (Int × Int)):Pure Tryz.prog 70 [lII a,lII b] (scb (a==b)):=by
 refine pcall0 200 (fn:=Tryz.f70) Tryz.func70 rfl (by simp [Tryz.ntmps70]) zB zB fun hs=>?_
 simp only [go_sem,simprocAttr,maxLen] at hs
 obtain⟨⟨ha, -⟩,hb, -⟩:=hs
 ((try refine zW ?_);(try with_reducible exact True.intro))
 by_cases hn:a.length=b.length
 ·((try refine zO ?_);(try with_reducible exact True.intro))
  refine walk_loop 200 200 (fun i:Nat=>i≤a.length∧a.take i=b.take i) (fun i=>⟨26, [(0,lII a),(1,lII b),(5,sci .i64 i)], [],0, []⟩) (fun i=>a.length - i) 0 ?_ ?_ ?_
  ·simp
  ·constructor<;>(try simp only [go_sem,simprocAttr,Int.natCast_zero])
  ·rintro i ⟨hi,he⟩
   ((try refine zW ?_);(try with_reducible exact True.intro))
   by_cases hb:i < a.length
   ·((try refine zO ?_);(try with_reducible exact True.intro))
    (refine walk_trim [0,1,5] trivial zL ?_;(refine zW ?_;try with_reducible exact True.intro);refine irun_walk (id:=6) (n:=200) [none,none,none,none,none,none,none,none,none] mixed (by kernel_rfl) ?_)
    (try simp (disch:=omega) only [go_sem,simprocAttr,zD,zE,eII])
    by_cases hc:a[i]=b[i]
    ·have h1:(a[i].1==b[i].1)=true:=by rw [hc];exact beq_self_eq_true _
     have h2:(a[i].2==b[i].2)=true:=by rw [hc];exact beq_self_eq_true _
     (try simp (disch:=omega) only [go_sem,simprocAttr,zD,zE,h1,h2])
     refine⟨i+1,⟨hb,?_⟩,by omega,?_⟩
     ·rw [List.take_succ_eq_append_getElem hb,List.take_succ_eq_append_getElem (by omega),he,hc]
     ·constructor<;>((try refine zW ?_);(try with_reducible exact True.intro))
    ·have h1:(a[i].1==b[i].1 && a[i].2==b[i].2)=false:=by
      rw [Bool.and_eq_false_iff,beq_eq_false_iff_ne,beq_eq_false_iff_ne]
      by_cases e:a[i].1=b[i].1
      ·exact .inr fun e2=>hc (Prod.ext e e2)
      ·exact .inl e
     (try simp (disch:=omega) only [go_sem,simprocAttr,zD,zE,h1])
     symm
     rw [beq_eq_false_iff_ne]
     rintro rfl
     exact hc rfl
   ·((try refine zO ?_);(try with_reducible exact True.intro))
    obtain rfl:i=a.length:=by omega
    rw [List.take_length,hn,List.take_length] at he
    simp [he]
 ·((try refine zO ?_);(try with_reducible exact True.intro))
  symm
  rw [beq_eq_false_iff_ne]
  rintro rfl
  exact hn rfl
end Go.Proofs.GY
