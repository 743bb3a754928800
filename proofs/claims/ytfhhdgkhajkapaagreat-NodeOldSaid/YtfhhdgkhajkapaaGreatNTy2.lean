/- Facts that the proofs of this claim lean on. -/
import Derived.Test.YtfhhdgkhajkapaaGreatNNa
import Derived.Test.YtfhhdgkhajkapaaGreatNQB
import Derived.Test.YtfhhdgkhajkapaaGreatIdRn
import Derived.Test.YtfhhdgkhajkapaaGreatNMd
import Derived.Test.YtfhhdgkhajkapaaGreatNTypes
set_option linter.unusedSimpArgs false
set_option linter.unusedVariables false
/- Frames that may be: the program's functions. -/
namespace Go.Proofs.NO
open Go Go.Idl Go.Proofs Go.GP Go.Proofs.Tryz
set_option maxHeartbeats 20000000
set_option maxRecDepth 100000
theorem qaJ (n a b:Int):Pure prog 231 [sci .i64 n,sci .i64 a,sci .i64 b] (scb (decide (a≤n) && decide (n≤b))):=by
 refine pcall0 200 (fn:=f231) func231 rfl (by simp [ntmps231]) zB zB fun hs=>?_
 try refine zW ?_
 by_cases h:a≤n
 ·(try simp (disch:=omega) only [go_sem,simprocAttr,zD,zE,h])
 ·(try simp (disch:=omega) only [go_sem,simprocAttr,zD,zE,h])
theorem qgP (a b:List Int):Pure prog 290 [lI a,lI b] (scb (a==b)):=by
 refine pcall0 200 (fn:=f290) func290 rfl (by simp [ntmps290]) zB zB fun hs=>?_
 simp only [go_sem,simprocAttr,maxLen] at hs
 obtain⟨⟨ha, -⟩,hb, -⟩:=hs
 try refine zW ?_
 by_cases hn:a.length=b.length
 rotate_left
 ·have e:(a==b)=false:=beq_eq_false_iff_ne.2 fun q=>hn (by rw [q])
  (try simp (disch:=omega) only [go_sem,simprocAttr,zD,zE,e])
 try refine zO ?_
 refine qac 200 200 (fun i:Nat=>i≤a.length∧a.take i=b.take i)
  (fun i=>⟨26, [(0,lI a),(1,lI b),(12,sci .i64 a.length),(13,sci .i64 i)], [],0, []⟩) (fun i=>a.length - i) (0) [] ?_ ?_ ?_
 ·simp
 ·constructor<;>(try simp (disch:=omega) only [go_sem,simprocAttr,zD,zE,Int.natCast_zero,List.take_of_length_le,List.append_assoc])
 ·rintro i hi
  obtain⟨hi,hinvi⟩:=hi
  try refine zW ?_
  by_cases li:i < a.length
  ·try refine zO ?_
   (refine zM [0,1,5,12,13] ?_;refine zI [none,none,none,none,none,none,none,none,none] ?_)
   (try simp (disch:=omega) only [go_sem,simprocAttr,zD,zE,eI])
   by_cases hc:a[i]=b[i]
   ·(try simp (disch:=omega) only [go_sem,simprocAttr,zD,zE,hc])
    refine⟨i+1, [],⟨li,?_⟩,by omega,?_⟩
    ·rw [List.take_succ_eq_append_getElem li,List.take_succ_eq_append_getElem (by omega),hinvi,hc]
    ·constructor<;>((try refine zO ?_);(try with_reducible exact True.intro))
   ·have e:(a==b)=false:=beq_eq_false_iff_ne.2 fun q=>hc (by subst q;rfl)
    (try simp (disch:=omega) only [go_sem,simprocAttr,zD,zE,hc,e])
  ·obtain rfl:i=a.length:=by omega
   rw [List.take_length,hn,List.take_length] at hinvi
   have e:(a==b)=true:=beq_iff_eq.2 hinvi
   (try simp (disch:=omega) only [go_sem,simprocAttr,zD,zE,e])
theorem qqd (a b:List (Int × Int)):Pure prog 330 [lII a,lII b] (scb (a==b)):=by
 refine pcall0 200 (fn:=f330) func330 rfl (by simp [ntmps330]) zB zB fun hs=>?_
 simp only [go_sem,simprocAttr,maxLen] at hs
 obtain⟨⟨ha, -⟩,hb, -⟩:=hs
 try refine zW ?_
 by_cases hn:a.length=b.length
 rotate_left
 ·have e:(a==b)=false:=beq_eq_false_iff_ne.2 fun q=>hn (by rw [q])
  (try simp (disch:=omega) only [go_sem,simprocAttr,zD,zE,e])
 try refine zO ?_
 refine qac 200 200 (fun i:Nat=>i≤a.length∧a.take i=b.take i)
  (fun i=>⟨26, [(0,lII a),(1,lII b),(12,sci .i64 a.length),(13,sci .i64 i)], [],0, []⟩) (fun i=>a.length - i) (0) [] ?_ ?_ ?_
 ·simp
 ·constructor<;>(try simp (disch:=omega) only [go_sem,simprocAttr,zD,zE,Int.natCast_zero,List.take_of_length_le,List.append_assoc])
 ·rintro i hi
  obtain⟨hi,hinvi⟩:=hi
  try refine zW ?_
  by_cases li:i < a.length
  ·try refine zO ?_
   (refine zM [0,1,5,12,13] ?_;refine zI [none,none,none,none,none,none,none,none,none] ?_)
   (try simp (disch:=omega) only [go_sem,simprocAttr,zD,zE,eII])
   by_cases hc:a[i]=b[i]
   ·have h1:(a[i].1==b[i].1)=true:=by rw [hc];exact beq_self_eq_true _
    have h2:(a[i].2==b[i].2)=true:=by rw [hc];exact beq_self_eq_true _
    (try simp (disch:=omega) only [go_sem,simprocAttr,zD,zE,h1,h2])
    refine⟨i+1, [],⟨li,?_⟩,by omega,?_⟩
    ·rw [List.take_succ_eq_append_getElem li,List.take_succ_eq_append_getElem (by omega),hinvi,hc]
    ·constructor<;>((try refine zO ?_);(try with_reducible exact True.intro))
   ·have e:(a==b)=false:=beq_eq_false_iff_ne.2 fun q=>hc (by subst q;rfl)
    have h1:(a[i].1==b[i].1 && a[i].2==b[i].2)=false:=by
     rw [Bool.and_eq_false_iff,beq_eq_false_iff_ne,beq_eq_false_iff_ne]
     by_cases e:a[i].1=b[i].1
     ·exact .inr fun e2=>hc (Prod.ext e e2)
     ·exact .inl e
    (try simp (disch:=omega) only [go_sem,simprocAttr,zD,zE,h1,e])
  ·obtain rfl:i=a.length:=by omega
   rw [List.take_length,hn,List.take_length] at hinvi
   have e:(a==b)=true:=beq_iff_eq.2 hinvi
   (try simp (disch:=omega) only [go_sem,simprocAttr,zD,zE,e])
theorem qo4 (a b:List (List (Int × Int))):Pure prog 329 [lMs a,lMs b, .p (.sc (.func (.func 330) #[] #[]))] (scb (a==b)):=by
 refine pcall0 200 (fn:=f329) func329 rfl (by simp [ntmps329]) zB zB fun hs=>?_
 simp only [go_sem,simprocAttr,maxLen] at hs
 obtain⟨⟨ha, -⟩,hb, -⟩:=hs
 try refine zW ?_
 by_cases hn:a.length=b.length
 rotate_left
 ·have e:(a==b)=false:=beq_eq_false_iff_ne.2 fun q=>hn (by rw [q])
  (try simp (disch:=omega) only [go_sem,simprocAttr,zD,zE,e])
 try refine zO ?_
 refine qac 200 200 (fun i:Nat=>i≤a.length∧a.take i=b.take i)
  (fun i=>⟨32, [(1,lMs b),(2, .p (.sc (.func (.func 330) #[] #[]))),(15,lMs a),(16,sci .i64 a.length),(17,sci .i64 i)], [],0, []⟩) (fun i=>a.length - i) (0) [] ?_ ?_ ?_
 ·simp
 ·constructor<;>(try simp (disch:=omega) only [go_sem,simprocAttr,zD,zE,Int.natCast_zero,List.take_of_length_le,List.append_assoc])
 ·rintro i hi
  obtain⟨hi,hinvi⟩:=hi
  try refine zW ?_
  by_cases li:i < a.length
  ·(try simp (disch:=omega) only [go_sem,simprocAttr,zD,zE,eMs])
   (refine zG ?_;refine callA_of (qqd a[i] b[i]) zB ?_;try refine zW ?_)
   by_cases hc:a[i]=b[i]
   ·have h1:(a[i]==b[i])=true:=beq_iff_eq.2 hc
    (try simp (disch:=omega) only [go_sem,simprocAttr,zD,zE,h1])
    refine⟨i+1, [],⟨li,?_⟩,by omega,?_⟩
    ·rw [List.take_succ_eq_append_getElem li,List.take_succ_eq_append_getElem (by omega),hinvi,hc]
    ·constructor<;>((try refine zO ?_);(try with_reducible exact True.intro))
   ·have e:(a==b)=false:=beq_eq_false_iff_ne.2 fun q=>hc (by subst q;rfl)
    have h1:(a[i]==b[i])=false:=beq_eq_false_iff_ne.2 hc
    (try simp (disch:=omega) only [go_sem,simprocAttr,zD,zE,h1,e])
  ·obtain rfl:i=a.length:=by omega
   rw [List.take_length,hn,List.take_length] at hinvi
   have e:(a==b)=true:=beq_iff_eq.2 hinvi
   (try simp (disch:=omega) only [go_sem,simprocAttr,zD,zE,e])
theorem qo3 (a b:List (List Int)):Pure prog 331 [lLs a,lLs b, .p (.sc (.func (.func 290) #[] #[]))] (scb (a==b)):=by
 refine pcall0 200 (fn:=f331) func331 rfl (by simp [ntmps331]) zB zB fun hs=>?_
 simp only [go_sem,simprocAttr,maxLen] at hs
 obtain⟨⟨ha, -⟩,hb, -⟩:=hs
 try refine zW ?_
 by_cases hn:a.length=b.length
 rotate_left
 ·have e:(a==b)=false:=beq_eq_false_iff_ne.2 fun q=>hn (by rw [q])
  (try simp (disch:=omega) only [go_sem,simprocAttr,zD,zE,e])
 try refine zO ?_
 refine qac 200 200 (fun i:Nat=>i≤a.length∧a.take i=b.take i)
  (fun i=>⟨32, [(1,lLs b),(2, .p (.sc (.func (.func 290) #[] #[]))),(15,lLs a),(16,sci .i64 a.length),(17,sci .i64 i)], [],0, []⟩) (fun i=>a.length - i) (0) [] ?_ ?_ ?_
 ·simp
 ·constructor<;>(try simp (disch:=omega) only [go_sem,simprocAttr,zD,zE,Int.natCast_zero,List.take_of_length_le,List.append_assoc])
 ·rintro i hi
  obtain⟨hi,hinvi⟩:=hi
  try refine zW ?_
  by_cases li:i < a.length
  ·(try simp (disch:=omega) only [go_sem,simprocAttr,zD,zE,eLs])
   (refine zG ?_;refine callA_of (qgP a[i] b[i]) zB ?_;try refine zW ?_)
   by_cases hc:a[i]=b[i]
   ·have h1:(a[i]==b[i])=true:=beq_iff_eq.2 hc
    (try simp (disch:=omega) only [go_sem,simprocAttr,zD,zE,h1])
    refine⟨i+1, [],⟨li,?_⟩,by omega,?_⟩
    ·rw [List.take_succ_eq_append_getElem li,List.take_succ_eq_append_getElem (by omega),hinvi,hc]
    ·constructor<;>((try refine zO ?_);(try with_reducible exact True.intro))
   ·have e:(a==b)=false:=beq_eq_false_iff_ne.2 fun q=>hc (by subst q;rfl)
    have h1:(a[i]==b[i])=false:=beq_eq_false_iff_ne.2 hc
    (try simp (disch:=omega) only [go_sem,simprocAttr,zD,zE,h1,e])
  ·obtain rfl:i=a.length:=by omega
   rw [List.take_length,hn,List.take_length] at hinvi
   have e:(a==b)=true:=beq_iff_eq.2 hinvi
   (try simp (disch:=omega) only [go_sem,simprocAttr,zD,zE,e])
theorem qoT (p q:Pc):Pure prog 289 [lPc p,lPc q] (scb (samePc p q)):=by
 generalize hres:samePc p q=res
 unfold samePc at hres
 obtain⟨p1,p2,p3,p4,p5,p6⟩:=p
 obtain⟨q1,q2,q3,q4,q5,q6⟩:=q
 simp only at hres
 refine pcall0 200 (fn:=f289) func289 rfl (by simp [ntmps289]) zB zB fun hs=>?_
 try refine zW ?_
 by_cases c1:p1=q1
 rotate_left
 ·have e:(p1==q1)=false:=beq_eq_false_iff_ne.2 c1
  simp only [e,Bool.false_and] at hres
  subst hres
  (try simp (maxSteps:=2000000) (disch:=omega) only [go_sem,simprocAttr,zD,zE,e])
 by_cases c2:p2=q2
 rotate_left
 ·have e:(p2==q2)=false:=beq_eq_false_iff_ne.2 c2
  simp only [e,Bool.and_false,Bool.false_and] at hres
  subst hres
  (try simp (maxSteps:=2000000) (disch:=omega) only [go_sem,simprocAttr,zD,zE,c1,e])
 by_cases c3:p3=q3
 rotate_left
 ·have e:(p3==q3)=false:=beq_eq_false_iff_ne.2 c3
  simp only [e,Bool.and_false,Bool.false_and] at hres
  subst hres
  (try simp (maxSteps:=2000000) (disch:=omega) only [go_sem,simprocAttr,zD,zE,c1,c2,e])
 have d1:(p1==q1)=true:=beq_iff_eq.2 c1
 have d2:(p2==q2)=true:=beq_iff_eq.2 c2
 have d3:(p3==q3)=true:=beq_iff_eq.2 c3
 simp only [d1,d2,d3,Bool.true_and] at hres
 (try simp (maxSteps:=2000000) (disch:=omega) only [go_sem,simprocAttr,zD,zE,d1,d2,d3])
 (refine zG ?_;refine callA_of (qgP p4 q4) zB ?_;try refine zW ?_)
 cases c4:p4==q4
 ·simp only [c4,Bool.false_and] at hres
  subst hres
  ((try refine zO ?_);(try with_reducible exact True.intro))
 simp only [c4,Bool.true_and] at hres
 try refine zO ?_
 (refine zG ?_;refine callA_of (qo4 p5 q5) zB ?_;try refine zW ?_)
 cases c5:p5==q5
 ·simp only [c5,Bool.false_and] at hres
  subst hres
  ((try refine zO ?_);(try with_reducible exact True.intro))
 simp only [c5,Bool.true_and] at hres
 try refine zO ?_
 (refine zG ?_;refine callA_of (qo3 p6 q6) zB ?_;try refine zW ?_)
 subst hres
 ((try refine zO ?_);(try with_reducible exact True.intro))
theorem qo5 (a b:List Pc):Pure prog 288 [lPs a,lPs b, .p (.sc (.func (.func 289) #[] #[]))] (scb (qbE a b)):=by
 generalize hres:qbE a b=res
 refine pcall0 200 (fn:=f288) func288 rfl (by simp [ntmps288]) zB zB fun hs=>?_
 simp only [go_sem,simprocAttr,maxLen] at hs
 obtain⟨⟨ha, -⟩,hb, -⟩:=hs
 try refine zW ?_
 by_cases hn:a.length=b.length
 rotate_left
 ·have e:res=false:=by rw [←hres,←Bool.not_eq_true,qbs];exact fun q=>hn (by rw [q])
  (try simp (disch:=omega) only [go_sem,simprocAttr,zD,zE,hn,e])
 try refine zO ?_
 refine qac 200 200 (fun i:Nat=>i≤a.length∧a.take i=b.take i)
  (fun i=>⟨32, [(1,lPs b),(2, .p (.sc (.func (.func 289) #[] #[]))),(15,lPs a),(16,sci .i64 a.length),(17,sci .i64 i)], [],0, []⟩) (fun i=>a.length - i) (0) [] ?_ ?_ ?_
 ·simp
 ·constructor<;>(try simp (disch:=omega) only [go_sem,simprocAttr,zD,zE,Int.natCast_zero,List.take_of_length_le,List.append_assoc])
 ·rintro i hi
  obtain⟨hi,hinvi⟩:=hi
  try refine zW ?_
  by_cases li:i < a.length
  ·(try simp (disch:=omega) only [go_sem,simprocAttr,zD,zE,ePc])
   (refine zG ?_;refine callA_of (qoT a[i] b[i]) zB ?_;try refine zW ?_)
   by_cases hc:a[i]=b[i]
   ·have h1:samePc a[i] b[i]=true:=qc1.2 hc
    (try simp (disch:=omega) only [go_sem,simprocAttr,zD,zE,h1])
    refine⟨i+1, [],⟨li,?_⟩,by omega,?_⟩
    ·rw [List.take_succ_eq_append_getElem li,List.take_succ_eq_append_getElem (by omega),hinvi,hc]
    ·constructor<;>((try refine zO ?_);(try with_reducible exact True.intro))
   ·have e:res=false:=by rw [←hres,←Bool.not_eq_true,qbs];exact fun q=>hc (by subst q;rfl)
    have h1:samePc a[i] b[i]=false:=by rw [←Bool.not_eq_true];exact fun h=>hc (qc1.1 h)
    (try simp (disch:=omega) only [go_sem,simprocAttr,zD,zE,h1,e])
  ·obtain rfl:i=a.length:=by omega
   rw [List.take_length,hn,List.take_length] at hinvi
   have e:res=true:=by rw [←hres];exact qbs.2 hinvi
   (try simp (disch:=omega) only [go_sem,simprocAttr,zD,zE,e])
end Go.Proofs.NO
/- Facts of types that are functions, and of a call under way. -/
namespace Go.Proofs.NO
open Go Go.Idl Go.Proofs Go.Proofs.Tryz
@[go_sem] theorem tszF_232:tsz prog 232=some 1:=by kernel_rfl
@[go_sem] theorem tagF_232:tag prog 232=some false:=by kernel_rfl
@[go_sem] theorem tszF_324:tsz prog 324=some 1:=by kernel_rfl
@[go_sem] theorem tzeF_324:tze prog 324=some [.nilFunc]:=by kernel_rfl
@[go_sem] theorem tagF_324:tag prog 324=some false:=by kernel_rfl
@[go_sem] theorem tzeF_230:tze prog 230=some [.int .i64 0, .slice none 0 0, .slice none 0 0, .bool false, .int .i64 0, .int .i64 0, .int .i64 0, .slice none 0 0, .slice none 0 0, .int .i64 0, .slice none 0 0, .int .i64 0, .int .i64 0, .int .i64 0, .slice none 0 0, .slice none 0 0, .slice none 0 0, .int .i64 0, .int .i64 0, .int .i64 0, .int .i64 0, .slice none 0 0, .slice none 0 0, .slice none 0 0, .int .i64 0, .int .i64 0, .int .i64 0, .slice none 0 0, .slice none 0 0, .int .i64 0, .int .i64 0, .slice none 0 0, .slice none 0 0, .slice none 0 0, .slice none 0 0, .int .i64 0, .int .i64 0, .int .i64 0, .int .i64 0, .int .i64 0, .slice none 0 0, .int .i64 0, .int .i64 0, .int .i64 0, .slice none 0 0]:=by kernel_rfl
end Go.Proofs.NO
