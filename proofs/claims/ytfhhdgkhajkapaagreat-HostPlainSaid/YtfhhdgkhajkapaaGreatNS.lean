/- Facts that the proofs of this claim lean on. -/
import Derived.Test.YtfhhdgkhajkapaaGreatNKa
import Derived.Test.YtfhhdgkhajkapaaGreatGPm
import Derived.Test.YtfhhdgkhajkapaaGreatIdPd
set_option linter.unusedSimpArgs false
set_option linter.unusedVariables false
/- Graphs: what each function answers. -/
namespace Go.Proofs.NO
open Go Go.Idl Go.Proofs Go.GP
set_option maxHeartbeats 20000000
set_option maxRecDepth 100000
def qax (a:Int):Nat→List Int→Int
 | _, []=> -1
 | i,x::r=>if a=x then i else qax a (i+1) r
theorem qcC (l:List Int) (a:Int):Pure Tryz.prog 97 [lI l,sci .i64 a] (sci .i64 (qax a 0 l)):=by
 refine qah 200 (fn:=Tryz.f97) Tryz.func97 rfl (by simp [Tryz.ntmps97]) zB zB fun hs=>?_
 simp only [go_sem,simprocAttr,maxLen] at hs
 try refine zO ?_
 refine qal 200 200 (fun i:Nat=>i≤l.length∧qax a i (l.drop i)=qax a 0 l)
  (fun i=>⟨19, [(0,lI l),(1,sci .i64 a),(7,sci .i64 l.length),(8,sci .i64 i)], [],0, []⟩) (fun i=>l.length - i) (0) [] ?_ ?_ ?_
 ·simp
 ·constructor<;>(try simp (disch:=omega) only [go_sem,simprocAttr,zD,zE,Int.natCast_zero,List.take_of_length_le,List.append_assoc])
 ·rintro i hi
  obtain⟨hi,hinvi⟩:=hi
  try refine zW ?_
  by_cases li:i < l.length
  ·rw [qbI li,qax] at hinvi
   by_cases e:a=l[i]
   ·rw [if_pos e] at hinvi
    (try simp (disch:=omega) only [go_sem,simprocAttr,zD,zE,eI,←e,←hinvi])
   ·rw [if_neg e] at hinvi
    (try simp (disch:=omega) only [go_sem,simprocAttr,zD,zE,eI,e])
    refine⟨i+1, [],⟨by first | assumption | omega,hinvi⟩,?_,?_⟩
    ·(try simp only []);omega
    ·constructor<;>(try simp (disch:=omega) only [go_sem,simprocAttr,zD,zE,List.append_assoc])
  ·obtain rfl:i=l.length:=by omega
   rw [List.drop_length] at hinvi
   (try simp (disch:=omega) only [go_sem,simprocAttr,zD,zE,←hinvi,qax])
theorem qeE {a:Int}: ∀ {l:List Int} {i:Nat},0≤qax a i l↔a∈l
 | [],i=>by simp [qax]
 | x::r,i=>by
   unfold qax
   split
   ·rename_i e;simp [e]
   ·rename_i e;rw [qeE,List.mem_cons];simp [e]
theorem qn9 (N n:Int) (ls:List (Int × Int)) (hl:ls.length≤1000000):Pure Tryz.prog 171 [eG N ls,sci .i64 n,sci .i64 0] (lI (outs n 0 ls)):=by
 refine qah 200 (fn:=Tryz.f171) Tryz.func171 rfl (by simp [Tryz.ntmps171]) zB zB fun hs=>?_
 try refine zW ?_
 refine qbk 7 1 trivial rfl (.inr rfl) ?_
 (refine walk_trim [1,2,7,11,12,13] trivial zL ?_;((try refine zW ?_);(try with_reducible exact True.intro)))
 refine qal 200 200 (fun i:Nat × Nat × List Int=>i.1≤ls.length∧i.2.2.length≤i.1∧i.2.2++outs n i.1 (ls.drop i.1)=outs n 0 ls)
  (fun i=>⟨29, [(1,sci .i64 n),(2,sci .i64 0),(7, .ref 1 i.2.1 0 i.2.2.length),(11,lII ls),(12,sci .i64 ls.length),(13,sci .i64 i.1)], [],2,
   [(1, .arr 1 i.2.1 (ir eI i.2.2))]⟩) (fun i=>ls.length - i.1) (0,0, []) [] ?_ ?_ ?_
 ·simp
 ·constructor<;>(try simp (disch:=omega) only [go_sem,simprocAttr,zD,zE,Int.natCast_zero])
 ·rintro⟨i,g,acc⟩ ⟨h1,h2,h3⟩
  simp only at h1 h2 h3
  try refine zW ?_
  by_cases hi:i < ls.length
  ·rw [qbI hi] at h3
   (try simp (disch:=omega) only [go_sem,simprocAttr,zD,zE,eII])
   by_cases hc:ls[i].1=n
   ·(try simp (disch:=omega) only [go_sem,simprocAttr,zD,zE,hc])
    refine⟨(i+1,g+1,acc++ [(i:Int)]), [],⟨hi,by simp;omega,by simpa [outs,hc] using h3⟩,by simp only;omega,?_⟩
    constructor<;>((try refine zO ?_);(try with_reducible exact True.intro))
   ·(try simp (disch:=omega) only [go_sem,simprocAttr,zD,zE,hc])
    refine⟨(i+1,g,acc), [],⟨hi,by simp only;omega,by simpa [outs,hc] using h3⟩,by simp only;omega,?_⟩
    constructor<;>((try refine zO ?_);(try with_reducible exact True.intro))
  ·obtain rfl:i=ls.length:=by omega
   rw [List.drop_length] at h3
   (try simp (disch:=omega) only [go_sem,simprocAttr,zD,zE,←h3,outs])
theorem qcO (N n:Int) (ls:List (Int × Int)) (hl:ls.length≤1000000):Pure Tryz.prog 90 [eG N ls,sci .i64 n] (lI (outs n 0 ls)):=by
 refine qah 200 (fn:=Tryz.f90) Tryz.func90 rfl (by simp [Tryz.ntmps90]) zB zB fun hs=>?_
 try refine zW ?_
 (refine qaf 200 ?_;refine zW ?_;refine callA_of (qn9 _ _ _ hl) zB ?_;((try refine zW ?_);(try with_reducible exact True.intro)))
 ((try refine zW ?_);(try with_reducible exact True.intro))
theorem qdG (N a b:Int) (ls:List (Int × Int)) (hl:ls.length≤1000000):Pure Tryz.prog 96 [eG N ls,sci .i64 a,sci .i64 b] (sci .i64 (qat a b 0 ls)):=by
 refine qah 200 (fn:=Tryz.f96) Tryz.func96 rfl (by simp [Tryz.ntmps96]) zB zB fun hs=>?_
 try refine zW ?_
 (refine walk_trim [7,14,15,16] trivial zL ?_;((try refine zW ?_);(try with_reducible exact True.intro)))
 refine qal 200 200 (fun i:Nat=>i≤ls.length∧qat a b i (ls.drop i)=qat a b 0 ls)
  (fun i=>⟨26, [(7, .ptr 1 0 0 0),(14,lII ls),(15,sci .i64 ls.length),(16,sci .i64 i)], [],2, [(1, .arr 2 0 [[sci .i64 a,sci .i64 b]])]⟩) (fun i=>ls.length - i) (0) [] ?_ ?_ ?_
 ·simp
 ·constructor<;>(try simp (disch:=omega) only [go_sem,simprocAttr,zD,zE,Int.natCast_zero,List.take_of_length_le,List.append_assoc])
 ·rintro i hi
  obtain⟨hi,hinvi⟩:=hi
  try refine zW ?_
  by_cases li:i < ls.length
  ·rw [qbI li,qat] at hinvi
   (try simp (disch:=omega) only [go_sem,simprocAttr,zD,zE,eII])
   by_cases e1:ls[i].1=a
   ·by_cases e2:ls[i].2=b
    ·rw [if_pos ⟨e1,e2⟩] at hinvi
     (try simp (disch:=omega) only [go_sem,simprocAttr,zD,zE,e1,e2,←hinvi])
    ·rw [if_neg (fun h=>e2 h.2)] at hinvi
     (try simp (disch:=omega) only [go_sem,simprocAttr,zD,zE,e1,e2])
     refine⟨i+1, [],⟨by first | assumption | omega,hinvi⟩,?_,?_⟩
     ·(try simp only []);omega
     ·constructor<;>(try simp (disch:=omega) only [go_sem,simprocAttr,zD,zE,List.append_assoc])
   ·rw [if_neg (fun h=>e1 h.1)] at hinvi
    (try simp (disch:=omega) only [go_sem,simprocAttr,zD,zE,e1])
    refine⟨i+1, [],⟨by first | assumption | omega,hinvi⟩,?_,?_⟩
    ·(try simp only []);omega
    ·constructor<;>(try simp (disch:=omega) only [go_sem,simprocAttr,zD,zE,List.append_assoc])
  ·obtain rfl:i=ls.length:=by omega
   rw [List.drop_length] at hinvi
   (try simp (disch:=omega) only [go_sem,simprocAttr,zD,zE,←hinvi,qat])
end Go.Proofs.NO
