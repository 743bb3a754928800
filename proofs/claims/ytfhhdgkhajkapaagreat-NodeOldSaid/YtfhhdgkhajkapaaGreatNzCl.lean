/- Facts that the proofs of this claim lean on. -/
import Derived.Test.YtfhhdgkhajkapaaGreatIdRn
import Derived.Test.YtfhhdgkhajkapaaGreatIdRc
import Derived.Test.YtfhhdgkhajkapaaGreatIdNl
set_option linter.unusedSimpArgs false
set_option linter.unusedVariables false
/- Pieces with lists of their own. -/
namespace Go.Proofs.NO
open Go Go.Idl Go.Proofs Go.Proofs.Tryz
set_option maxHeartbeats 20000000
set_option maxRecDepth 100000
theorem CloneI_spec (l:List Int) (hn:l.length≤1000000):Pure prog 219 [lI l] (lI l):=by
 cases l with
 | nil=>
   refine pcall0 200 (fn:=f219) func219 rfl (by simp [ntmps219]) zB zB fun hs=>?_
   (try simp only [go_sem,simprocAttr,pr,List.map_nil])
   refine qe6 (sz:=1) (rows:= []) rfl (by kernel_rfl) (by decide) fun b hb=>vc_sound _ 200 _ _ ?_
   cases b<;>((try refine zW ?_);(try with_reducible exact True.intro))
 | cons a r=>
   have e:pr eI (a::r)=eI a::pr eI r:=rfl
   rw [List.length_cons] at hn
   refine pcall0 200 (fn:=f219) func219 rfl (by simp [ntmps219]) zB zB fun hs=>?_
   (try simp (disch:=omega) only [go_sem,simprocAttr,zD,zE,e])
theorem ql9 (l:List (Int × Int)) (hn:l.length≤1000000):Pure prog 229 [lII l] (lII l):=by
 cases l with
 | nil=>
   refine pcall0 200 (fn:=f229) func229 rfl (by simp [ntmps229]) zB zB fun hs=>?_
   (try simp only [go_sem,simprocAttr,pr,List.map_nil])
   refine qe6 (sz:=2) (rows:= []) rfl (by kernel_rfl) (by decide) fun b hb=>vc_sound _ 200 _ _ ?_
   cases b<;>((try refine zW ?_);(try with_reducible exact True.intro))
 | cons a r=>
   have e:pr eII (a::r)=eII a::pr eII r:=rfl
   rw [List.length_cons] at hn
   refine pcall0 200 (fn:=f229) func229 rfl (by simp [ntmps229]) zB zB fun hs=>?_
   (try simp (disch:=omega) only [go_sem,simprocAttr,zD,zE,e])
abbrev cM (l:List (List (Int × Int))):IBlk:= .arr 1 0 [[lMs l]]
abbrev cL (l:List (List Int)):IBlk:= .arr 1 0 [[lLs l]]
theorem qoR (x:List (Int × Int)) (r:List (List (Int × Int))) (hx:x.length≤1000000) (hr:r.length≤1000000):PG prog 284 [.ptr 0 0 0 0] [cM (x::r)] 0 (lII x) [(0,cM r)]:=by
 refine pg_of 200 (fn:=f284) func284 rfl (by simp [ntmps284]) 1 rfl zC zC zC zC zC fun hs=>?_
 try refine zW ?_
 (try simp (disch:=omega) only [go_sem,simprocAttr,zD,zE,eMs])
 (refine zG ?_;refine callA_of (ql9 x hx) zB ?_)
 (try simp (disch:=omega) only [go_sem,simprocAttr,zD,zE,eMs,Nat.add_sub_cancel,List.take_length])
theorem qoQ (x:List Int) (r:List (List Int)) (hx:x.length≤1000000) (hr:r.length≤1000000):PG prog 286 [.ptr 0 0 0 0] [cL (x::r)] 0 (lI x) [(0,cL r)]:=by
 refine pg_of 200 (fn:=f286) func286 rfl (by simp [ntmps286]) 1 rfl zC zC zC zC zC fun hs=>?_
 try refine zW ?_
 (try simp (disch:=omega) only [go_sem,simprocAttr,zD,zE,eLs])
 (refine zG ?_;refine callA_of (CloneI_spec x hx) zB ?_)
 (try simp (disch:=omega) only [go_sem,simprocAttr,zD,zE,eLs,Nat.add_sub_cancel,List.take_length])
theorem qna (l:List (List (Int × Int))) (hl: ∀x∈l,x.length≤1000000) (hn:l.length≤1000000):
  PG prog 283 [sci .i64 l.length, .clo (.func 284) [] [.ptr 0 0 0 0]] [cM l] 0 (lMs l) [(0,cM [])]:=by
 refine pg_of 200 (fn:=f283) func283 rfl (by simp [ntmps283]) 1 rfl zC zC zC zC zC fun hs=>?_
 try refine zW ?_
 refine qbe 5 1 trivial rfl (.inr rfl) ?_
 (refine walk_trim [1,5,6,7] trivial zL ?_;((try refine zW ?_);(try with_reducible exact True.intro)))
 refine qac 200 200 (fun i:Nat × Nat × List (List (Int × Int))=>i.1≤l.length∧i.2.2=l.take i.1)
  (fun i=>⟨16, [(1, .clo (.func 284) [] [.ptr 0 0 0 0]),(5, .ref 1 i.2.1 0 i.2.2.length),(6,sci .i64 l.length),(7,sci .i64 i.1)], [],2, [(1, .arr 1 i.2.1 (ir eMs i.2.2)),(0,cM (l.drop i.1))]⟩) (fun i=>l.length - i.1) (0,0, []) [] ?_ ?_ ?_
 ·simp
 ·constructor<;>(try simp (disch:=omega) only [go_sem,simprocAttr,zD,zE,Int.natCast_zero])
 ·rintro⟨i,g,acc⟩ ⟨h1,h3⟩
  simp only at h1 h3
  have hal:acc.length=i:=by rw [h3];simp;omega
  try refine zW ?_
  by_cases hl':i < l.length
  ·have e:l.drop i=l[i]::l.drop (i+1):=List.drop_eq_getElem_cons hl'
   (try simp (disch:=omega) only [go_sem,simprocAttr,zD,zE,e])
   (refine at_g 200 ?_;refine zW ?_;refine callG_of [0] (qoR l[i] (l.drop (i+1)) (hl _ (List.getElem_mem hl')) (by rw [List.length_drop];omega)) zU ?_)
   (try simp (disch:=omega) only [go_sem,simprocAttr,zD,zE,eMs])
   refine⟨(i+1,g+1,acc++ [l[i]]), [],⟨hl',?_⟩,?_,?_⟩
   ·simp only [h3]
    rw [List.take_succ_eq_append_getElem hl']
   ·simp only;omega
   ·constructor<;>(try simp (disch:=omega) only [go_sem,simprocAttr,zD,zE,eMs,ir_snoc,List.map_cons,List.map_nil])
  ·have e:l.drop i= []:=List.drop_eq_nil_of_le (by omega)
   rw [List.take_of_length_le (by omega)] at h3
   (try simp (disch:=omega) only [go_sem,simprocAttr,zD,zE,h3,e])
theorem qm9 (l:List (List Int)) (hl: ∀x∈l,x.length≤1000000) (hn:l.length≤1000000):
  PG prog 285 [sci .i64 l.length, .clo (.func 286) [] [.ptr 0 0 0 0]] [cL l] 0 (lLs l) [(0,cL [])]:=by
 refine pg_of 200 (fn:=f285) func285 rfl (by simp [ntmps285]) 1 rfl zC zC zC zC zC fun hs=>?_
 try refine zW ?_
 refine qbe 5 1 trivial rfl (.inr rfl) ?_
 (refine walk_trim [1,5,6,7] trivial zL ?_;((try refine zW ?_);(try with_reducible exact True.intro)))
 refine qac 200 200 (fun i:Nat × Nat × List (List Int)=>i.1≤l.length∧i.2.2=l.take i.1)
  (fun i=>⟨16, [(1, .clo (.func 286) [] [.ptr 0 0 0 0]),(5, .ref 1 i.2.1 0 i.2.2.length),(6,sci .i64 l.length),(7,sci .i64 i.1)], [],2, [(1, .arr 1 i.2.1 (ir eLs i.2.2)),(0,cL (l.drop i.1))]⟩) (fun i=>l.length - i.1) (0,0, []) [] ?_ ?_ ?_
 ·simp
 ·constructor<;>(try simp (disch:=omega) only [go_sem,simprocAttr,zD,zE,Int.natCast_zero])
 ·rintro⟨i,g,acc⟩ ⟨h1,h3⟩
  simp only at h1 h3
  have hal:acc.length=i:=by rw [h3];simp;omega
  try refine zW ?_
  by_cases hl':i < l.length
  ·have e:l.drop i=l[i]::l.drop (i+1):=List.drop_eq_getElem_cons hl'
   (try simp (disch:=omega) only [go_sem,simprocAttr,zD,zE,e])
   (refine at_g 200 ?_;refine zW ?_;refine callG_of [0] (qoQ l[i] (l.drop (i+1)) (hl _ (List.getElem_mem hl')) (by rw [List.length_drop];omega)) zU ?_)
   (try simp (disch:=omega) only [go_sem,simprocAttr,zD,zE,eLs])
   refine⟨(i+1,g+1,acc++ [l[i]]), [],⟨hl',?_⟩,?_,?_⟩
   ·simp only [h3]
    rw [List.take_succ_eq_append_getElem hl']
   ·simp only;omega
   ·constructor<;>(try simp (disch:=omega) only [go_sem,simprocAttr,zD,zE,eLs,ir_snoc,List.map_cons,List.map_nil])
  ·have e:l.drop i= []:=List.drop_eq_nil_of_le (by omega)
   rw [List.take_of_length_le (by omega)] at h3
   (try simp (disch:=omega) only [go_sem,simprocAttr,zD,zE,h3,e])
theorem qjB (l:List (List (Int × Int))) (hl: ∀x∈l,x.length≤1000000) (hn:l.length≤1000000):Pure prog 227 [lMs l] (lMs l):=by
 refine pcall0 200 (fn:=f227) func227 rfl (by simp [ntmps227]) zB zB fun hs=>?_
 try refine zW ?_
 (refine at_g 200 ?_;refine zW ?_;refine callG_of [0] (qna l hl hn) zU ?_;((try refine zW ?_);(try with_reducible exact True.intro)))
theorem qeb (l:List (List Int)) (hl: ∀x∈l,x.length≤1000000) (hn:l.length≤1000000):Pure prog 228 [lLs l] (lLs l):=by
 refine pcall0 200 (fn:=f228) func228 rfl (by simp [ntmps228]) zB zB fun hs=>?_
 try refine zW ?_
 (refine at_g 200 ?_;refine zW ?_;refine callG_of [0] (qm9 l hl hn) zU ?_;((try refine zW ?_);(try with_reducible exact True.intro)))
structure gPc (p:Pc):Prop where
 sent:p.sent.length≤1000000
 inn:p.inn.length≤1000000
 out:p.out.length≤1000000
 inns: ∀x∈p.inn,x.length≤1000000
 outs: ∀x∈p.out,x.length≤1000000
theorem qrI (p:Pc):gPc (qeU p):=by
 have key: ∀ {α:Type} (l:List (List α)),∀x∈(l.take 7).map (·.take 20),x.length≤1000000:=by
  intro α l x hx
  obtain⟨y,_,rfl⟩:=List.mem_map.1 hx
  simp only [List.length_take];omega
 refine⟨?_,?_,?_,key _,key _⟩<;>simp only [qeU,List.length_map,List.length_take]<;>omega
theorem qkL (p:Pc) (h:gPc p):Pure prog 170 [lPc p] (lPc p):=by
 obtain⟨h1,h2,h3,h4,h5⟩:=h
 refine pcall0 200 (fn:=f170) func170 rfl (by simp [ntmps170]) zB zB fun hs=>?_
 try refine zW ?_
 (refine zM [1,2,75] ?_;refine zI [none,none,none,none,none,none,none,none,some [0,1,2,3,4,5,9,10,12,13],none,none,some [0,1,2,3,4,5,12,13],none,none,some [0,1,2,3,4,5],none,some []] ?_)
 try refine zW ?_
 (refine zF ?_;refine callA_of (CloneI_spec _ h1) zB ?_)
 try refine zW ?_
 (refine zF ?_;refine callA_of (qjB _ h4 h2) zB ?_)
 try refine zW ?_
 (refine zF ?_;refine callA_of (qeb _ h5 h3) zB ?_)
 ((try refine zO ?_);(try with_reducible exact True.intro))
theorem qjS (l:List Pc) (hl: ∀p∈l,gPc p) (hn:l.length≤1000):Pure prog 297 [lPs l, .p (.sc (.func (.func 170) #[] #[]))] (lPs l):=by
 refine pcall0 200 (fn:=f297) func297 rfl (by simp [ntmps297]) zB zB fun hs=>?_
 try refine zW ?_
 refine qbe 5 6 trivial rfl (.inr rfl) ?_
 (refine walk_trim [1,5,8,9,10] trivial zL ?_;((try refine zW ?_);(try with_reducible exact True.intro)))
 refine qac 200 200 (fun i:Nat × Nat × List Pc=>i.1≤l.length∧i.2.2=l.take i.1)
  (fun i=>⟨22, [(1, .p (.sc (.func (.func 170) #[] #[]))),(5, .ref 0 i.2.1 0 i.2.2.length),(8,lPs l),(9,sci .i64 l.length),(10,sci .i64 i.1)], [],1, [(0, .arr 6 i.2.1 (ir ePc i.2.2))]⟩) (fun i=>l.length - i.1) (0,0, []) [] ?_ ?_ ?_
 ·simp
 ·constructor<;>(try simp (disch:=omega) only [go_sem,simprocAttr,zD,zE,Int.natCast_zero])
 ·rintro⟨i,g,acc⟩ ⟨h1,h3⟩
  simp only at h1 h3
  have hal:acc.length=i:=by rw [h3];simp;omega
  try refine zW ?_
  by_cases hl':i < l.length
  ·(try simp (disch:=omega) only [go_sem,simprocAttr,zD,zE,ePc])
   (refine zG ?_;refine callA_of (qkL l[i] (hl _ (List.getElem_mem hl'))) zB ?_)
   (try simp (disch:=omega) only [go_sem,simprocAttr,zD,zE,ePc])
   refine⟨(i+1,g+1,acc++ [l[i]]), [1],⟨hl',?_⟩,?_,?_⟩
   ·simp only [h3]
    rw [List.take_succ_eq_append_getElem hl']
   ·simp only;omega
   ·constructor<;>(try simp (disch:=omega) only [go_sem,simprocAttr,zD,zE,ePc,ir_snoc,List.map_cons,List.map_nil])
  ·rw [List.take_of_length_le (by omega)] at h3
   (try simp (disch:=omega) only [go_sem,simprocAttr,zD,zE,h3])
structure Hs where
 node:Int
 state:Int
 steps:Int
 inn:List (List (Int × Int))
 out:List (List Int)
abbrev lHs (h:Hs):IV:= .agg [sci .i64 h.node,sci .i64 h.state,sci .i64 h.steps,lMs h.inn,lLs h.out]
abbrev nil0:IV:= .p (.sc (.slice none 0 0))
abbrev qf6 (h:Hs):IV:= .agg [sci .i64 h.node,sci .i64 h.state,sci .i64 h.steps,nil0,lMs h.inn,lLs h.out]
theorem qfj (h:Hs):Pure prog 169 [lHs h] (qf6 h):=by
 refine pcall0 200 (fn:=f169) func169 rfl (by simp [ntmps169]) zB zB fun hs=>?_
 (repeat(first | ((refine zW ?_;try with_reducible exact True.intro))))
end Go.Proofs.NO
/-
 Calls in the walk whose arguments are handed on as they are: a slice that is nil is told as nil.
-/
namespace Go.Idl
variable {P:Program} {h0:IH}
section
variable {Q:Exit→qaa→Prop} {k:List It} {all:Array Oper} {r:List Oper} {dst:Option Tmp} {ty:TypeId} {pos:String} {aft:Array Edge} {N:Nat} {s:List (Nat × IV)} {d:List IDef} {nx:Nat} {l:List (Nat × IBlk)}
 {g:Option (Nat × Bool)} {f:Operand} {args:List Operand} {ts:List TypeId} {K:qaa→List FP→Prop} {acc:List FP}
theorem qkX (n:Nat)
  (h:qaq (qas (ev s) f args) (fun q=>(qai all s ⟨dst, .call {callee:= .value f,args:=⟨args⟩,argTypes:=⟨ts⟩},ty,pos,aft,g⟩=some true∧fnOk P q.1=true∧dOk N dst=true)∧
   qdi P q.1 q.2 (look (l++h0.m)) True fun x _=>vc P h0 Q n (.ops all r::k) ⟨N,putS dst x s,d,nx,l⟩) False):
  IRun P h0 (.ops all (⟨dst, .call {callee:= .value f,args:=⟨args⟩,argTypes:=⟨ts⟩},ty,pos,aft,g⟩::r)::k) ⟨N,s,d,nx,l⟩ Q:=by
 cases hc:qas (ev s) f args with
 | none=>rw [hc] at h;exact h.elim
 | some q=>
   rw [hc,qaj] at h
   obtain⟨⟨h1,h2,h3⟩,h4⟩:=h
   obtain⟨x,R,p1,p2,p3,p4⟩:=h4 trivial
   exact ql5 n hc p1 p3 h1 h2 h3 p4
theorem qja
  (h:qaq (qas (ev s) f args) (fun q=>(qai all s ⟨dst, .call {callee:= .value f,args:=⟨args⟩,argTypes:=⟨ts⟩},ty,pos,aft,g⟩=some true∧fnOk P q.1=true∧dOk N dst=true)∧
   qdi P q.1 q.2 (look (l++h0.m)) True fun x R=>dvc P h0 all K r ⟨N,putS dst x s,d,nx,l⟩ (acc++ [(R, [])])) False):
  DRun P h0 all (⟨dst, .call {callee:= .value f,args:=⟨args⟩,argTypes:=⟨ts⟩},ty,pos,aft,g⟩::r) ⟨N,s,d,nx,l⟩ acc K:=by
 cases hc:qas (ev s) f args with
 | none=>rw [hc] at h;exact h.elim
 | some q=>
   rw [hc,qaj] at h
   obtain⟨⟨h1,h2,h3⟩,h4⟩:=h
   obtain⟨x,R,p1,p2,p3,p4⟩:=h4 trivial
   exact qis hc p1 p3 h1 h2 h3 p2 p4
end
end Go.Idl
/- Pieces with lists of their own; messages compared by the document. -/
namespace Go.Proofs.NO
open Go Go.Idl Go.Proofs Go.Proofs.Tryz
set_option maxHeartbeats 20000000
set_option maxRecDepth 100000
theorem CloneI0_spec:Pure prog 219 [nil0] nil0:=by
 refine pcall0 200 (fn:=f219) func219 rfl (by simp [ntmps219]) zB zB fun hs=>?_
 ((try refine zW ?_);(try with_reducible exact True.intro))
structure gHs (p:Hs):Prop where
 inn:p.inn.length≤1000000
 out:p.out.length≤1000000
 inns: ∀x∈p.inn,x.length≤1000000
 outs: ∀x∈p.out,x.length≤1000000
theorem qi7 (p:Hs) (h:gHs p):Pure prog 170 [qf6 p] (qf6 p):=by
 obtain⟨h2,h3,h4,h5⟩:=h
 refine pcall0 200 (fn:=f170) func170 rfl (by simp [ntmps170]) zB zB fun hs=>?_
 try refine zW ?_
 (refine zM [1,2,75] ?_;refine zI [none,none,none,none,none,none,none,none,some [0,1,2,3,4,5,9,10,12,13],none,none,some [0,1,2,3,4,5,12,13],none,none,some [0,1,2,3,4,5],none,some []] ?_)
 try refine zW ?_
 (refine qja ?_;refine zW ?_;refine callA_of (CloneI0_spec) zB ?_)
 try refine zW ?_
 (refine zF ?_;refine callA_of (qjB _ h4 h2) zB ?_)
 try refine zW ?_
 (refine zF ?_;refine callA_of (qeb _ h5 h3) zB ?_)
 ((try refine zO ?_);(try with_reducible exact True.intro))
theorem qnU (a:Int × Int) (r:List (Int × Int)) (hn:r.length≤1000000):PG prog 229 [lII (a::r)] [] 1 (.ref 0 0 0 (r.length+1)) [(0, .arr 2 0 (ir eII (a::r)))]:=by
 have e:pr eII (a::r)=eII a::pr eII r:=rfl
 refine pg_of 200 (fn:=f229) func229 rfl (by simp [ntmps229]) 0 rfl zC zC zC zC zC fun hs=>?_
 try refine zW ?_
 (try simp (disch:=omega) only [go_sem,simprocAttr,zD,zE,e])
 refine⟨[0],by simp [geAll,qau,qau.nin],rfl,?_⟩
 exact⟨rfl,rfl,qaO _⟩
theorem ql8:PG prog 229 [lII []] [] 1 (.ref 0 0 0 0) [(0, .arr 2 0 [])]:=by
 refine pg_of 200 (fn:=f229) func229 rfl (by simp [ntmps229]) 0 rfl zC zC zC zC zC fun hs=>?_
 (try simp only [go_sem,simprocAttr,pr,List.map_nil])
 refine qe6 (sz:=2) (rows:= []) rfl (by kernel_rfl) (by decide) fun b hb=>?_
 cases b
 ·refine vc_sound _ 200 _ _ ?_
  try refine zW ?_
  refine⟨[0],by simp [geAll,qau,qau.nin],rfl,?_⟩
  exact⟨rfl,rfl,qaO _⟩
 ·refine vc_sound _ 6 _ _ ?_
  try refine zW ?_
  refine qbe 2 2 trivial rfl (.inr rfl) ?_
  refine vc_sound _ 200 _ _ ?_
  try refine zW ?_
  refine⟨[0],by simp [geAll,qau,qau.nin],rfl,?_⟩
  exact⟨rfl,rfl,qaO _⟩
theorem qnT (l:List (Int × Int)) (hn:l.length≤1000000):PG prog 229 [lII l] [] 1 (.ref 0 0 0 l.length) [(0, .arr 2 0 (ir eII l))]:=by
 cases l with
 | nil=>exact ql8
 | cons a r=>exact qnU a r (by rw [List.length_cons] at hn;omega)
theorem qjA (x:List (Int × Int)) (r:List (List (Int × Int))) (hx:x.length≤1000000) (hr:r.length≤1000000):
  PG prog 284 [.ptr 0 0 0 0] [cM (x::r)] 1 (.ref 1 0 0 x.length) [(1, .arr 2 0 (ir eII x)),(0,cM r)]:=by
 refine pg_of 200 (fn:=f284) func284 rfl (by simp [ntmps284]) 1 rfl zC zC zC zC zC fun hs=>?_
 try refine zW ?_
 (try simp (disch:=omega) only [go_sem,simprocAttr,zD,zE,eMs])
 (refine at_g 200 ?_;refine zW ?_;refine callG_of [] (qnT x hx) zU ?_)
 (try simp (disch:=omega) only [go_sem,simprocAttr,zD,zE,eMs,Nat.add_sub_cancel,List.take_length])
 exact⟨[1],by simp [geAll,qau,qau.nin],rfl,rfl,rfl,qaO _⟩
end Go.Proofs.NO
