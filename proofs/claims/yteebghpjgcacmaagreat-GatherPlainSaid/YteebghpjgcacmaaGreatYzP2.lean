/- Facts that the proofs of this claim lean on. -/
import Derived.Test.YteebghpjgcacmaaGreatYPB
import Derived.Test.YteebghpjgcacmaaGreatIdGr
import Derived.Test.YteebghpjgcacmaaGreatIdNl
import Derived.Test.YteebghpjgcacmaaGreatIdCn
set_option linter.unusedSimpArgs false
set_option linter.unusedVariables false
/- Pieces compared, handed on, cut: many. -/
namespace Go.Proofs.GY
open Go Go.Idl Go.Proofs
set_option maxHeartbeats 20000000
set_option maxRecDepth 100000
theorem qlq (l:List Int) (hn:l.length≤1000000):Pure Tryz.prog 87 [lI l] (lI l):=by
 cases l with
 | nil=>
   refine qaf 200 (fn:=Tryz.f87) Tryz.func87 rfl (by simp [Tryz.ntmps87]) zB zB fun hs=>?_
   (try simp only [go_sem,simprocAttr,pr,List.map_nil])
   refine qdc (sz:=1) (rows:= []) rfl (by kernel_rfl) (by decide) fun b hb=>vc_sound _ 200 _ _ ?_
   cases b<;>((try refine zW ?_);(try with_reducible exact True.intro))
 | cons a r=>
   have e:pr eI (a::r)=eI a::pr eI r:=rfl
   rw [List.length_cons] at hn
   refine qaf 200 (fn:=Tryz.f87) Tryz.func87 rfl (by simp [Tryz.ntmps87]) zB zB fun hs=>?_
   (try simp (disch:=omega) only [go_sem,simprocAttr,zD,zE,e])
theorem qdv (l:List (Int × Int)) (hn:l.length≤1000000):Pure Tryz.prog 103 [lII l] (lII l):=by
 cases l with
 | nil=>
   refine qaf 200 (fn:=Tryz.f103) Tryz.func103 rfl (by simp [Tryz.ntmps103]) zB zB fun hs=>?_
   (try simp only [go_sem,simprocAttr,pr,List.map_nil])
   refine qdc (sz:=2) (rows:= []) rfl (by kernel_rfl) (by decide) fun b hb=>vc_sound _ 200 _ _ ?_
   cases b<;>((try refine zW ?_);(try with_reducible exact True.intro))
 | cons a r=>
   have e:pr eII (a::r)=eII a::pr eII r:=rfl
   rw [List.length_cons] at hn
   refine qaf 200 (fn:=Tryz.f103) Tryz.func103 rfl (by simp [Tryz.ntmps103]) zB zB fun hs=>?_
   (try simp (disch:=omega) only [go_sem,simprocAttr,zD,zE,e])
abbrev cM (l:List (List (Int × Int))):IBlk:= .arr 1 0 [[lMs l]]
abbrev cL (l:List (List Int)):IBlk:= .arr 1 0 [[lLs l]]
theorem qnn (x:List (Int × Int)) (r:List (List (Int × Int))) (hx:x.length≤1000000) (hr:r.length≤1000000):PG Tryz.prog 115 [.ptr 0 0 0 0] [cM (x::r)] 0 (lII x) [(0,cM r)]:=by
 refine qa1 200 (fn:=Tryz.f115) Tryz.func115 rfl (by simp [Tryz.ntmps115]) 1 rfl zC zC zC zC zC fun hs=>?_
 ((try refine zW ?_);(try with_reducible exact True.intro))
 (try simp (disch:=omega) only [go_sem,simprocAttr,zD,zE,eMs])
 (refine qac 200 ?_;refine zW ?_;refine callA_of (qdv x hx) zB ?_;((try refine zW ?_);(try with_reducible exact True.intro)))
 (try simp (disch:=omega) only [go_sem,simprocAttr,zD,zE,eMs,Nat.add_sub_cancel,List.take_length])
theorem qnm (x:List Int) (r:List (List Int)) (hx:x.length≤1000000) (hr:r.length≤1000000):PG Tryz.prog 117 [.ptr 0 0 0 0] [cL (x::r)] 0 (lI x) [(0,cL r)]:=by
 refine qa1 200 (fn:=Tryz.f117) Tryz.func117 rfl (by simp [Tryz.ntmps117]) 1 rfl zC zC zC zC zC fun hs=>?_
 ((try refine zW ?_);(try with_reducible exact True.intro))
 (try simp (disch:=omega) only [go_sem,simprocAttr,zD,zE,eLs])
 (refine qac 200 ?_;refine zW ?_;refine callA_of (qlq x hx) zB ?_;((try refine zW ?_);(try with_reducible exact True.intro)))
 (try simp (disch:=omega) only [go_sem,simprocAttr,zD,zE,eLs,Nat.add_sub_cancel,List.take_length])
theorem qlV (l:List (List (Int × Int))) (hl: ∀x∈l,x.length≤1000000) (hn:l.length≤1000000):
  PG Tryz.prog 114 [sci .i64 l.length, .clo (.func 115) [] [.ptr 0 0 0 0]] [cM l] 0 (lMs l) [(0,cM [])]:=by
 refine qa1 200 (fn:=Tryz.f114) Tryz.func114 rfl (by simp [Tryz.ntmps114]) 1 rfl zC zC zC zC zC fun hs=>?_
 try refine zW ?_
 refine walk_own 5 1 trivial rfl (.inr rfl) ?_
 (refine walk_trim [1,5,6,7] trivial zL ?_;((try refine zW ?_);(try with_reducible exact True.intro)))
 refine qad 200 200 (fun i:Nat × Nat × List (List (Int × Int))=>i.1≤l.length∧i.2.2=l.take i.1)
  (fun i=>⟨16, [(1, .clo (.func 115) [] [.ptr 0 0 0 0]),(5, .ref 1 i.2.1 0 i.2.2.length),(6,sci .i64 l.length),(7,sci .i64 i.1)], [],2, [(1, .arr 1 i.2.1 (ir eMs i.2.2)),(0,cM (l.drop i.1))]⟩) (fun i=>l.length - i.1) (0,0, []) [] ?_ ?_ ?_
 ·simp
 ·constructor<;>(try simp (disch:=omega) only [go_sem,simprocAttr,zD,zE,Int.natCast_zero])
 ·rintro⟨i,g,acc⟩ ⟨h1,h3⟩
  simp only at h1 h3
  have hal:acc.length=i:=by rw [h3];simp;omega
  try refine zW ?_
  by_cases hl':i < l.length
  ·have e:l.drop i=l[i]::l.drop (i+1):=List.drop_eq_getElem_cons hl'
   (try simp (disch:=omega) only [go_sem,simprocAttr,zD,zE,e])
   (refine at_g 200 ?_;refine zW ?_;refine qav [0] (qnn l[i] (l.drop (i+1)) (hl _ (List.getElem_mem hl')) (by rw [List.length_drop];omega)) zU ?_;((try refine zW ?_);(try with_reducible exact True.intro)))
   (try simp (disch:=omega) only [go_sem,simprocAttr,zD,zE,eMs])
   refine⟨(i+1,g+1,acc++ [l[i]]), [],⟨hl',?_⟩,?_,?_⟩
   ·simp only [h3]
    rw [List.take_succ_eq_append_getElem hl']
   ·simp only;omega
   ·constructor<;>(try simp (disch:=omega) only [go_sem,simprocAttr,zD,zE,eMs,ir_snoc,List.map_cons,List.map_nil])
  ·have e:l.drop i= []:=List.drop_eq_nil_of_le (by omega)
   rw [List.take_of_length_le (by omega)] at h3
   (try simp (disch:=omega) only [go_sem,simprocAttr,zD,zE,h3,e])
theorem qlU (l:List (List Int)) (hl: ∀x∈l,x.length≤1000000) (hn:l.length≤1000000):
  PG Tryz.prog 116 [sci .i64 l.length, .clo (.func 117) [] [.ptr 0 0 0 0]] [cL l] 0 (lLs l) [(0,cL [])]:=by
 refine qa1 200 (fn:=Tryz.f116) Tryz.func116 rfl (by simp [Tryz.ntmps116]) 1 rfl zC zC zC zC zC fun hs=>?_
 try refine zW ?_
 refine walk_own 5 1 trivial rfl (.inr rfl) ?_
 (refine walk_trim [1,5,6,7] trivial zL ?_;((try refine zW ?_);(try with_reducible exact True.intro)))
 refine qad 200 200 (fun i:Nat × Nat × List (List Int)=>i.1≤l.length∧i.2.2=l.take i.1)
  (fun i=>⟨16, [(1, .clo (.func 117) [] [.ptr 0 0 0 0]),(5, .ref 1 i.2.1 0 i.2.2.length),(6,sci .i64 l.length),(7,sci .i64 i.1)], [],2, [(1, .arr 1 i.2.1 (ir eLs i.2.2)),(0,cL (l.drop i.1))]⟩) (fun i=>l.length - i.1) (0,0, []) [] ?_ ?_ ?_
 ·simp
 ·constructor<;>(try simp (disch:=omega) only [go_sem,simprocAttr,zD,zE,Int.natCast_zero])
 ·rintro⟨i,g,acc⟩ ⟨h1,h3⟩
  simp only at h1 h3
  have hal:acc.length=i:=by rw [h3];simp;omega
  try refine zW ?_
  by_cases hl':i < l.length
  ·have e:l.drop i=l[i]::l.drop (i+1):=List.drop_eq_getElem_cons hl'
   (try simp (disch:=omega) only [go_sem,simprocAttr,zD,zE,e])
   (refine at_g 200 ?_;refine zW ?_;refine qav [0] (qnm l[i] (l.drop (i+1)) (hl _ (List.getElem_mem hl')) (by rw [List.length_drop];omega)) zU ?_;((try refine zW ?_);(try with_reducible exact True.intro)))
   (try simp (disch:=omega) only [go_sem,simprocAttr,zD,zE,eLs])
   refine⟨(i+1,g+1,acc++ [l[i]]), [],⟨hl',?_⟩,?_,?_⟩
   ·simp only [h3]
    rw [List.take_succ_eq_append_getElem hl']
   ·simp only;omega
   ·constructor<;>(try simp (disch:=omega) only [go_sem,simprocAttr,zD,zE,eLs,ir_snoc,List.map_cons,List.map_nil])
  ·have e:l.drop i= []:=List.drop_eq_nil_of_le (by omega)
   rw [List.take_of_length_le (by omega)] at h3
   (try simp (disch:=omega) only [go_sem,simprocAttr,zD,zE,h3,e])
theorem qjg (l:List (List (Int × Int))) (hl: ∀x∈l,x.length≤1000000) (hn:l.length≤1000000):Pure Tryz.prog 88 [lMs l] (lMs l):=by
 refine qaf 200 (fn:=Tryz.f88) Tryz.func88 rfl (by simp [Tryz.ntmps88]) zB zB fun hs=>?_
 try refine zW ?_
 (refine at_g 200 ?_;refine zW ?_;refine qav [0] (qlV l hl hn) zU ?_;((try refine zW ?_);(try with_reducible exact True.intro)))
theorem qjf (l:List (List Int)) (hl: ∀x∈l,x.length≤1000000) (hn:l.length≤1000000):Pure Tryz.prog 89 [lLs l] (lLs l):=by
 refine qaf 200 (fn:=Tryz.f89) Tryz.func89 rfl (by simp [Tryz.ntmps89]) zB zB fun hs=>?_
 try refine zW ?_
 (refine at_g 200 ?_;refine zW ?_;refine qav [0] (qlU l hl hn) zU ?_;((try refine zW ?_);(try with_reducible exact True.intro)))
structure gPc (p:Pc):Prop where
 sent:p.sent.length≤1000000
 inn:p.inn.length≤1000000
 out:p.out.length≤1000000
 inns: ∀x∈p.inn,x.length≤1000000
 outs: ∀x∈p.out,x.length≤1000000
structure Hs where
 node:Int
 state:Int
 steps:Int
 inn:List (List (Int × Int))
 out:List (List Int)
abbrev lHs (h:Hs):IV:= .agg [sci .i64 h.node,sci .i64 h.state,sci .i64 h.steps,lMs h.inn,lLs h.out]
abbrev nil0:IV:= .p (.sc (.slice none 0 0))
abbrev qe5 (h:Hs):IV:= .agg [sci .i64 h.node,sci .i64 h.state,sci .i64 h.steps,nil0,lMs h.inn,lLs h.out]
theorem qdZ (h:Hs):Pure Tryz.prog 83 [lHs h] (qe5 h):=by
 refine qaf 200 (fn:=Tryz.f83) Tryz.func83 rfl (by simp [Tryz.ntmps83]) zB zB fun hs=>?_
 (repeat(first | ((refine zW ?_;try with_reducible exact True.intro))))
theorem qd9:Pure Tryz.prog 87 [nil0] nil0:=by
 refine qaf 200 (fn:=Tryz.f87) Tryz.func87 rfl (by simp [Tryz.ntmps87]) zB zB fun hs=>?_
 ((try refine zW ?_);(try with_reducible exact True.intro))
structure gHs (p:Hs):Prop where
 inn:p.inn.length≤1000000
 out:p.out.length≤1000000
 inns: ∀x∈p.inn,x.length≤1000000
 outs: ∀x∈p.out,x.length≤1000000
theorem qiQ (p:Hs) (h:gHs p):Pure Tryz.prog 46 [qe5 p] (qe5 p):=by
 obtain⟨h2,h3,h4,h5⟩:=h
 refine qaf 200 (fn:=Tryz.f46) Tryz.func46 rfl (by simp [Tryz.ntmps46]) zB zB fun hs=>?_
 try refine zW ?_
 (refine walk_trim [1,2,68] trivial zL ?_;refine zW ?_;refine irun_walk (id:=1) (n:=200) [none,none,none,none,none,none,none,none,some [0,1,2,3,4,5,9,10,12,13],none,none,some [0,1,2,3,4,5,12,13],none,none,some [0,1,2,3,4,5],none,some []] qap (by kernel_rfl) ?_)
 try refine zW ?_
 (refine qfR ?_;refine zW ?_;refine callA_of (qd9) zB ?_;((try refine zW ?_);(try with_reducible exact True.intro)))
 try refine zW ?_
 (refine at_dcall ?_;refine zW ?_;refine callA_of (qjg _ h4 h2) zB ?_;((try refine zW ?_);(try with_reducible exact True.intro)))
 try refine zW ?_
 (refine at_dcall ?_;refine zW ?_;refine callA_of (qjf _ h5 h3) zB ?_;((try refine zW ?_);(try with_reducible exact True.intro)))
 ((try refine zO ?_);(try with_reducible exact True.intro))
end Go.Proofs.GY
