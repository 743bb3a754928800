/- Facts that the proofs of this claim lean on. -/
import Derived.Test.YteebghpjgcacmaaGreatYTypes
import Derived.Test.YteebghpjgcacmaaGreatIdNl
set_option linter.unusedSimpArgs false
set_option linter.unusedVariables false
/- Pieces cut and handed to the document. -/
namespace Go.Proofs.GY
open Go Go.Idl Go.Proofs
set_option maxHeartbeats 20000000
set_option maxRecDepth 100000
structure Pc where
 node:Int
 state:Int
 steps:Int
 sent:List Int
 inn:List (List (Int × Int))
 out:List (List Int)
def eMs (l:List (Int × Int)):List PV:= [.imm 2 (pr eII l)]
def eLs (l:List Int):List PV:= [.imm 1 (pr eI l)]
def ePc (p:Pc):List PV:= [.sc (.int .i64 p.node), .sc (.int .i64 p.state), .sc (.int .i64 p.steps), .imm 1 (pr eI p.sent), .imm 1 (pr eMs p.inn), .imm 1 (pr eLs p.out)]
abbrev lMs (l:List (List (Int × Int))):IV:= .p (.imm 1 (pr eMs l))
abbrev lLs (l:List (List Int)):IV:= .p (.imm 1 (pr eLs l))
abbrev lPc (p:Pc):IV:= .agg [sci .i64 p.node,sci .i64 p.state,sci .i64 p.steps,lI p.sent,lMs p.inn,lLs p.out]
abbrev lPs (l:List Pc):IV:= .p (.imm 6 (pr ePc l))
theorem ir_snoc {α:Type} (f:α→List PV) (l:List α) (x:α):ir f (l++ [x])=ir f l++ [(f x).map .p]:=by simp [ir]
theorem tk_min {α:Type} (l:List α) (c:Nat):List.take (min l.length c) l=List.take c l:=by
 rcases Nat.le_total l.length c with h | h
 ·rw [Nat.min_eq_left h,List.take_length,List.take_of_length_le h]
 ·rw [Nat.min_eq_right h]
theorem tk_len {α:Type} (l:List α) (c:Nat):(List.take c l).length=min l.length c:=by
 rw [List.length_take];omega
theorem tk_self {α:Type} (l:List α) (c:Nat):List.take (min l.length c) (List.take c l)=List.take c l:=by
 rw [←tk_len,List.take_length]
theorem qiO (a b:List Int):Pure Tryz.prog 16 [lI a,lI b] (scb (a==b)):=by
 refine qaf 200 (fn:=Tryz.f16) Tryz.func16 rfl (by simp [Tryz.ntmps16]) zB zB fun hs=>?_
 simp only [go_sem,simprocAttr,maxLen] at hs
 obtain⟨⟨ha, -⟩,hb, -⟩:=hs
 try refine zW ?_
 by_cases hn:a.length=b.length
 ·try refine zO ?_
  refine qaP 200 200 (fun i:Nat=>i≤a.length∧a.take i=b.take i) (fun i=>⟨26, [(0,lI a),(1,lI b),(5,sci .i64 i)], [],0, []⟩) (fun i=>a.length - i) 0 ?_ ?_ ?_
  ·simp
  ·constructor<;>(try simp only [go_sem,simprocAttr,Int.natCast_zero])
  ·rintro i ⟨hi,he⟩
   try refine zW ?_
   by_cases hb:i < a.length
   ·try refine zO ?_
    (refine walk_trim [0,1,5] trivial zL ?_;refine zW ?_;refine irun_walk (id:=6) (n:=200) [none,none,none,none,none,none,none,none,none] qap (by kernel_rfl) ?_)
    (try simp (disch:=omega) only [go_sem,simprocAttr,zD,zE,eI])
    by_cases hc:a[i]=b[i]
    ·try refine zO ?_
     refine⟨i+1,⟨hb,?_⟩,by omega,?_⟩
     ·rw [List.take_succ_eq_append_getElem hb,List.take_succ_eq_append_getElem (by omega),he,hc]
     ·constructor<;>((try refine zW ?_);(try with_reducible exact True.intro))
    ·try refine zO ?_
     symm
     rw [beq_eq_false_iff_ne]
     rintro rfl
     exact hc rfl
   ·try refine zO ?_
    obtain rfl:i=a.length:=by omega
    rw [List.take_length,hn,List.take_length] at he
    simp [he]
 ·try refine zO ?_
  symm
  rw [beq_eq_false_iff_ne]
  rintro rfl
  exact hn rfl
theorem Msgs_spec (a b:List (Int × Int)):Pure Tryz.prog 70 [lII a,lII b] (scb (a==b)):=by
 refine qaf 200 (fn:=Tryz.f70) Tryz.func70 rfl (by simp [Tryz.ntmps70]) zB zB fun hs=>?_
 simp only [go_sem,simprocAttr,maxLen] at hs
 obtain⟨⟨ha, -⟩,hb, -⟩:=hs
 try refine zW ?_
 by_cases hn:a.length=b.length
 ·try refine zO ?_
  refine qaP 200 200 (fun i:Nat=>i≤a.length∧a.take i=b.take i) (fun i=>⟨26, [(0,lII a),(1,lII b),(5,sci .i64 i)], [],0, []⟩) (fun i=>a.length - i) 0 ?_ ?_ ?_
  ·simp
  ·constructor<;>(try simp only [go_sem,simprocAttr,Int.natCast_zero])
  ·rintro i ⟨hi,he⟩
   try refine zW ?_
   by_cases hb:i < a.length
   ·try refine zO ?_
    (refine walk_trim [0,1,5] trivial zL ?_;refine zW ?_;refine irun_walk (id:=6) (n:=200) [none,none,none,none,none,none,none,none,none] qap (by kernel_rfl) ?_)
    (try simp (disch:=omega) only [go_sem,simprocAttr,zD,zE,eII])
    by_cases hc:a[i]=b[i]
    ·have h1:(a[i].1==b[i].1)=true:=by rw [hc];exact beq_self_eq_true _
     have h2:(a[i].2==b[i].2)=true:=by rw [hc];exact beq_self_eq_true _
     (try simp (disch:=omega) only [go_sem,simprocAttr,zD,zE,h1,h2])
     refine⟨i+1,⟨hb,?_⟩,by omega,?_⟩
     ·rw [List.take_succ_eq_append_getElem hb,List.take_succ_eq_append_getElem (by omega),he,hc]
     ·constructor<;>((try refine zW ?_);(try with_reducible exact True.intro))
    ·have h1:(a[i].1==b[i].1 && a[i].2==b[i].2)=false:=by
      rw [Bool.and_eq_false_iff,beq_eq_false_iff_ne,beq_eq_false_iff_ne]
      by_cases e:a[i].1=b[i].1
      ·exact .inr fun e2=>hc (Prod.ext e e2)
      ·exact .inl e
     (try simp (disch:=omega) only [go_sem,simprocAttr,zD,zE,h1])
     symm
     rw [beq_eq_false_iff_ne]
     rintro rfl
     exact hc rfl
   ·try refine zO ?_
    obtain rfl:i=a.length:=by omega
    rw [List.take_length,hn,List.take_length] at he
    simp [he]
 ·try refine zO ?_
  symm
  rw [beq_eq_false_iff_ne]
  rintro rfl
  exact hn rfl
end Go.Proofs.GY
