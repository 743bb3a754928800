/- Facts that the proofs of this claim lean on. -/
import Derived.Test.YtfhhdgkhajkapaaGreatNPB
import Derived.Test.YtfhhdgkhajkapaaGreatIdGr
import Derived.Test.YtfhhdgkhajkapaaGreatIdNl
import Derived.Test.YtfhhdgkhajkapaaGreatIdCn
set_option linter.unusedSimpArgs false
set_option linter.unusedVariables false
/- Pieces compared, handed on, cut: many. -/
namespace Go.Proofs.NO
open Go Go.Idl Go.Proofs
set_option maxHeartbeats 20000000
set_option maxRecDepth 100000
theorem qkG (l:List Int) (hn:l.length≤1000000):Pure Tryz.prog 219 [lI l] (lI l):=by
 cases l with
 | nil=>
   refine qah 200 (fn:=Tryz.f219) Tryz.func219 rfl (by simp [Tryz.ntmps219]) zB zB fun hs=>?_
   (try simp only [go_sem,simprocAttr,pr,List.map_nil])
   refine qcI (sz:=1) (rows:= []) rfl (by kernel_rfl) (by decide) fun b hb=>vc_sound _ 200 _ _ ?_
   cases b<;>((try refine zW ?_);(try with_reducible exact True.intro))
 | cons a r=>
   have e:pr eI (a::r)=eI a::pr eI r:=rfl
   rw [List.length_cons] at hn
   refine qah 200 (fn:=Tryz.f219) Tryz.func219 rfl (by simp [Tryz.ntmps219]) zB zB fun hs=>?_
   (try simp (disch:=omega) only [go_sem,simprocAttr,zD,zE,e])
theorem qdS (l:List (Int × Int)) (hn:l.length≤1000000):Pure Tryz.prog 229 [lII l] (lII l):=by
 cases l with
 | nil=>
   refine qah 200 (fn:=Tryz.f229) Tryz.func229 rfl (by simp [Tryz.ntmps229]) zB zB fun hs=>?_
   (try simp only [go_sem,simprocAttr,pr,List.map_nil])
   refine qcI (sz:=2) (rows:= []) rfl (by kernel_rfl) (by decide) fun b hb=>vc_sound _ 200 _ _ ?_
   cases b<;>((try refine zW ?_);(try with_reducible exact True.intro))
 | cons a r=>
   have e:pr eII (a::r)=eII a::pr eII r:=rfl
   rw [List.length_cons] at hn
   refine qah 200 (fn:=Tryz.f229) Tryz.func229 rfl (by simp [Tryz.ntmps229]) zB zB fun hs=>?_
   (try simp (disch:=omega) only [go_sem,simprocAttr,zD,zE,e])
abbrev cM (l:List (List (Int × Int))):IBlk:= .arr 1 0 [[lMs l]]
abbrev cL (l:List (List Int)):IBlk:= .arr 1 0 [[lLs l]]
theorem qmt (x:List (Int × Int)) (r:List (List (Int × Int))) (hx:x.length≤1000000) (hr:r.length≤1000000):PG Tryz.prog 284 [.ptr 0 0 0 0] [cM (x::r)] 0 (lII x) [(0,cM r)]:=by
 refine qba 200 (fn:=Tryz.f284) Tryz.func284 rfl (by simp [Tryz.ntmps284]) 1 rfl zC zC zC zC zC fun hs=>?_
 ((try refine zW ?_);(try with_reducible exact True.intro))
 (try simp (disch:=omega) only [go_sem,simprocAttr,zD,zE,eMs])
 (refine qaf 200 ?_;refine zW ?_;refine callA_of (qdS x hx) zB ?_;((try refine zW ?_);(try with_reducible exact True.intro)))
 (try simp (disch:=omega) only [go_sem,simprocAttr,zD,zE,eMs,Nat.add_sub_cancel,List.take_length])
theorem qms (x:List Int) (r:List (List Int)) (hx:x.length≤1000000) (hr:r.length≤1000000):PG Tryz.prog 286 [.ptr 0 0 0 0] [cL (x::r)] 0 (lI x) [(0,cL r)]:=by
 refine qba 200 (fn:=Tryz.f286) Tryz.func286 rfl (by simp [Tryz.ntmps286]) 1 rfl zC zC zC zC zC fun hs=>?_
 ((try refine zW ?_);(try with_reducible exact True.intro))
 (try simp (disch:=omega) only [go_sem,simprocAttr,zD,zE,eLs])
 (refine qaf 200 ?_;refine zW ?_;refine callA_of (qkG x hx) zB ?_;((try refine zW ?_);(try with_reducible exact True.intro)))
 (try simp (disch:=omega) only [go_sem,simprocAttr,zD,zE,eLs,Nat.add_sub_cancel,List.take_length])
theorem qk3 (l:List (List (Int × Int))) (hl: ∀x∈l,x.length≤1000000) (hn:l.length≤1000000):
  PG Tryz.prog 283 [sci .i64 l.length, .clo (.func 284) [] [.ptr 0 0 0 0]] [cM l] 0 (lMs l) [(0,cM [])]:=by
 refine qba 200 (fn:=Tryz.f283) Tryz.func283 rfl (by simp [Tryz.ntmps283]) 1 rfl zC zC zC zC zC fun hs=>?_
 try refine zW ?_
 refine qbk 5 1 trivial rfl (.inr rfl) ?_
 (refine walk_trim [1,5,6,7] trivial zL ?_;((try refine zW ?_);(try with_reducible exact True.intro)))
 refine qal 200 200 (fun i:Nat × Nat × List (List (Int × Int))=>i.1≤l.length∧i.2.2=l.take i.1)
  (fun i=>⟨16, [(1, .clo (.func 284) [] [.ptr 0 0 0 0]),(5, .ref 1 i.2.1 0 i.2.2.length),(6,sci .i64 l.length),(7,sci .i64 i.1)], [],2, [(1, .arr 1 i.2.1 (ir eMs i.2.2)),(0,cM (l.drop i.1))]⟩) (fun i=>l.length - i.1) (0,0, []) [] ?_ ?_ ?_
 ·simp
 ·constructor<;>(try simp (disch:=omega) only [go_sem,simprocAttr,zD,zE,Int.natCast_zero])
 ·rintro⟨i,g,acc⟩ ⟨h1,h3⟩
  simp only at h1 h3
  have hal:acc.length=i:=by rw [h3];simp;omega
  try refine zW ?_
  by_cases hl':i < l.length
  ·have e:l.drop i=l[i]::l.drop (i+1):=List.drop_eq_getElem_cons hl'
   (try simp (disch:=omega) only [go_sem,simprocAttr,zD,zE,e])
   (refine at_g 200 ?_;refine zW ?_;refine qaB [0] (qmt l[i] (l.drop (i+1)) (hl _ (List.getElem_mem hl')) (by rw [List.length_drop];omega)) zU ?_;((try refine zW ?_);(try with_reducible exact True.intro)))
   (try simp (disch:=omega) only [go_sem,simprocAttr,zD,zE,eMs])
   refine⟨(i+1,g+1,acc++ [l[i]]), [],⟨hl',?_⟩,?_,?_⟩
   ·simp only [h3]
    rw [List.take_succ_eq_append_getElem hl']
   ·simp only;omega
   ·constructor<;>(try simp (disch:=omega) only [go_sem,simprocAttr,zD,zE,eMs,ir_snoc,List.map_cons,List.map_nil])
  ·have e:l.drop i= []:=List.drop_eq_nil_of_le (by omega)
   rw [List.take_of_length_le (by omega)] at h3
   (try simp (disch:=omega) only [go_sem,simprocAttr,zD,zE,h3,e])
theorem qk2 (l:List (List Int)) (hl: ∀x∈l,x.length≤1000000) (hn:l.length≤1000000):
  PG Tryz.prog 285 [sci .i64 l.length, .clo (.func 286) [] [.ptr 0 0 0 0]] [cL l] 0 (lLs l) [(0,cL [])]:=by
 refine qba 200 (fn:=Tryz.f285) Tryz.func285 rfl (by simp [Tryz.ntmps285]) 1 rfl zC zC zC zC zC fun hs=>?_
 try refine zW ?_
 refine qbk 5 1 trivial rfl (.inr rfl) ?_
 (refine walk_trim [1,5,6,7] trivial zL ?_;((try refine zW ?_);(try with_reducible exact True.intro)))
 refine qal 200 200 (fun i:Nat × Nat × List (List Int)=>i.1≤l.length∧i.2.2=l.take i.1)
  (fun i=>⟨16, [(1, .clo (.func 286) [] [.ptr 0 0 0 0]),(5, .ref 1 i.2.1 0 i.2.2.length),(6,sci .i64 l.length),(7,sci .i64 i.1)], [],2, [(1, .arr 1 i.2.1 (ir eLs i.2.2)),(0,cL (l.drop i.1))]⟩) (fun i=>l.length - i.1) (0,0, []) [] ?_ ?_ ?_
 ·simp
 ·constructor<;>(try simp (disch:=omega) only [go_sem,simprocAttr,zD,zE,Int.natCast_zero])
 ·rintro⟨i,g,acc⟩ ⟨h1,h3⟩
  simp only at h1 h3
  have hal:acc.length=i:=by rw [h3];simp;omega
  try refine zW ?_
  by_cases hl':i < l.length
  ·have e:l.drop i=l[i]::l.drop (i+1):=List.drop_eq_getElem_cons hl'
   (try simp (disch:=omega) only [go_sem,simprocAttr,zD,zE,e])
   (refine at_g 200 ?_;refine zW ?_;refine qaB [0] (qms l[i] (l.drop (i+1)) (hl _ (List.getElem_mem hl')) (by rw [List.length_drop];omega)) zU ?_;((try refine zW ?_);(try with_reducible exact True.intro)))
   (try simp (disch:=omega) only [go_sem,simprocAttr,zD,zE,eLs])
   refine⟨(i+1,g+1,acc++ [l[i]]), [],⟨hl',?_⟩,?_,?_⟩
   ·simp only [h3]
    rw [List.take_succ_eq_append_getElem hl']
   ·simp only;omega
   ·constructor<;>(try simp (disch:=omega) only [go_sem,simprocAttr,zD,zE,eLs,ir_snoc,List.map_cons,List.map_nil])
  ·have e:l.drop i= []:=List.drop_eq_nil_of_le (by omega)
   rw [List.take_of_length_le (by omega)] at h3
   (try simp (disch:=omega) only [go_sem,simprocAttr,zD,zE,h3,e])
theorem qnl (l:List (List (Int × Int))) (hl: ∀x∈l,x.length≤1000000) (hn:l.length≤1000000):Pure Tryz.prog 227 [lMs l] (lMs l):=by
 refine qah 200 (fn:=Tryz.f227) Tryz.func227 rfl (by simp [Tryz.ntmps227]) zB zB fun hs=>?_
 try refine zW ?_
 (refine at_g 200 ?_;refine zW ?_;refine qaB [0] (qk3 l hl hn) zU ?_;((try refine zW ?_);(try with_reducible exact True.intro)))
theorem qnk (l:List (List Int)) (hl: ∀x∈l,x.length≤1000000) (hn:l.length≤1000000):Pure Tryz.prog 228 [lLs l] (lLs l):=by
 refine qah 200 (fn:=Tryz.f228) Tryz.func228 rfl (by simp [Tryz.ntmps228]) zB zB fun hs=>?_
 try refine zW ?_
 (refine at_g 200 ?_;refine zW ?_;refine qaB [0] (qk2 l hl hn) zU ?_;((try refine zW ?_);(try with_reducible exact True.intro)))
structure gPc (p:Pc):Prop where
 sent:p.sent.length≤1000000
 inn:p.inn.length≤1000000
 out:p.out.length≤1000000
 inns: ∀x∈p.inn,x.length≤1000000
 outs: ∀x∈p.out,x.length≤1000000
structure Hs where
 node:Int
 state:Int
 steps:Int
 inn:List (List (Int × Int))
 out:List (List Int)
abbrev lHs (h:Hs):IV:= .agg [sci .i64 h.node,sci .i64 h.state,sci .i64 h.steps,lMs h.inn,lLs h.out]
abbrev nil0:IV:= .p (.sc (.slice none 0 0))
abbrev qhu (h:Hs):IV:= .agg [sci .i64 h.node,sci .i64 h.state,sci .i64 h.steps,nil0,lMs h.inn,lLs h.out]
theorem qhv (h:Hs):Pure Tryz.prog 169 [lHs h] (qhu h):=by
 refine qah 200 (fn:=Tryz.f169) Tryz.func169 rfl (by simp [Tryz.ntmps169]) zB zB fun hs=>?_
 (repeat(first | ((refine zW ?_;try with_reducible exact True.intro))))
theorem qeQ:Pure Tryz.prog 219 [nil0] nil0:=by
 refine qah 200 (fn:=Tryz.f219) Tryz.func219 rfl (by simp [Tryz.ntmps219]) zB zB fun hs=>?_
 ((try refine zW ?_);(try with_reducible exact True.intro))
structure gHs (p:Hs):Prop where
 inn:p.inn.length≤1000000
 out:p.out.length≤1000000
 inns: ∀x∈p.inn,x.length≤1000000
 outs: ∀x∈p.out,x.length≤1000000
end Go.Proofs.NO
