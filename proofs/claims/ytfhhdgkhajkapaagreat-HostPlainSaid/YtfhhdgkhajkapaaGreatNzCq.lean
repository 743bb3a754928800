/- Facts that the proofs of this claim lean on. -/
import Derived.Test.YtfhhdgkhajkapaaGreatNzP2
import Derived.Test.YtfhhdgkhajkapaaGreatIdGr
set_option linter.unusedSimpArgs false
set_option linter.unusedVariables false
/- Clone with its block. -/
namespace Go.Proofs.NO
open Go Go.Idl Go.Proofs
set_option maxHeartbeats 20000000
set_option maxRecDepth 100000
theorem CloneM_new (a:Int × Int) (r:List (Int × Int)) (hn:r.length≤1000000):PG Tryz.prog 229 [lII (a::r)] [] 1 (.ref 0 0 0 (r.length+1)) [(0, .arr 2 0 (ir eII (a::r)))]:=by
 have e:pr eII (a::r)=eII a::pr eII r:=rfl
 refine qba 200 (fn:=Tryz.f229) Tryz.func229 rfl (by simp [Tryz.ntmps229]) 0 rfl zC zC zC zC zC fun hs=>?_
 ((try refine zW ?_);(try with_reducible exact True.intro))
 (try simp (disch:=omega) only [go_sem,simprocAttr,zD,zE,e])
 refine⟨[0],⟨rfl,by simp [geAll],by simp [qao,qao.nin]⟩,rfl,?_⟩
 exact⟨rfl,rfl,qaw _⟩
theorem qkH:PG Tryz.prog 229 [lII []] [] 1 (.ref 0 0 0 0) [(0, .arr 2 0 [])]:=by
 refine qba 200 (fn:=Tryz.f229) Tryz.func229 rfl (by simp [Tryz.ntmps229]) 0 rfl zC zC zC zC zC fun hs=>?_
 (try simp only [go_sem,simprocAttr,pr,List.map_nil])
 refine qcI (sz:=2) (rows:= []) rfl (by kernel_rfl) (by decide) fun b hb=>?_
 cases b
 ·refine vc_sound _ 200 _ _ ?_
  try refine zW ?_
  refine⟨[0],⟨rfl,by simp [geAll],by simp [qao,qao.nin]⟩,rfl,?_⟩
  exact⟨rfl,rfl,qaw _⟩
 ·refine vc_sound _ 6 _ _ ?_
  try refine zW ?_
  refine qbk 2 2 trivial rfl (.inr rfl) ?_
  refine vc_sound _ 200 _ _ ?_
  try refine zW ?_
  refine⟨[0],⟨rfl,by simp [geAll],by simp [qao,qao.nin]⟩,rfl,?_⟩
  exact⟨rfl,rfl,qaw _⟩
theorem qeo (l:List (Int × Int)) (hn:l.length≤1000000):PG Tryz.prog 229 [lII l] [] 1 (.ref 0 0 0 l.length) [(0, .arr 2 0 (ir eII l))]:=by
 cases l with
 | nil=>exact qkH
 | cons a r=>exact CloneM_new a r (by rw [List.length_cons] at hn;omega)
theorem qig (x:List (Int × Int)) (r:List (List (Int × Int))) (hx:x.length≤1000000) (hr:r.length≤1000000):
  PG Tryz.prog 284 [.ptr 0 0 0 0] [cM (x::r)] 1 (.ref 1 0 0 x.length) [(1, .arr 2 0 (ir eII x)),(0,cM r)]:=by
 refine qba 200 (fn:=Tryz.f284) Tryz.func284 rfl (by simp [Tryz.ntmps284]) 1 rfl zC zC zC zC zC fun hs=>?_
 ((try refine zW ?_);(try with_reducible exact True.intro))
 (try simp (disch:=omega) only [go_sem,simprocAttr,zD,zE,eMs])
 (refine at_g 200 ?_;refine zW ?_;refine qaB [] (qeo x hx) zU ?_;((try refine zW ?_);(try with_reducible exact True.intro)))
 (try simp (disch:=omega) only [go_sem,simprocAttr,zD,zE,eMs,Nat.add_sub_cancel,List.take_length])
 exact⟨[1],⟨rfl,by simp [geAll],by simp [qao,qao.nin]⟩,rfl,rfl,rfl,qaw _⟩
def qag (l:List (List (Int × Int))) (i0 b n:Nat) (i:Nat):List (List IV):=ir eMs (l.take i0)++ [.ref b 0 0 n]::ir eMs ((l.take i).drop (i0+1))
@[go_sem] theorem qpB {l:List (List (Int × Int))} {i0 b k i n:Nat}:qbd n (qag l i0 b k i)=(b < n):=by
  unfold qag
  rw [qla,qcf]
  simp [qbd,qcf,bels,bel]
theorem qhp {l:List (List (Int × Int))} {i0 b k i:Nat} (h:i0 < i) (hi:i≤l.length):(qag l i0 b k i).length=i:=by
 unfold qag ir
 simp only [List.length_append,List.length_cons,List.length_map,List.length_take,List.length_drop]
 omega
theorem qgk {l:List (List (Int × Int))} {i0 b k i:Nat} (h:i0 < i) (hi:i < l.length):qag l i0 b k (i+1)=qag l i0 b k i++ [(eMs l[i]).map .p]:=by
 unfold qag
 rw [List.take_succ_eq_append_getElem hi,List.drop_append_of_le_length (by rw [List.length_take];omega),ir_snoc,List.append_assoc,List.cons_append]
theorem qk9 {l:List (List (Int × Int))} {i0 k i:Nat}:rnRw (rsel 1 [1,2]) (qag l i0 2 k i)=qag l i0 2 k i:=by
 unfold qag
 simp only [go_sem]
 rfl
theorem qmh (l:List (List (Int × Int))) (i0:Nat) (h0:i0 < l.length) (hl: ∀x∈l,x.length≤1000000) (hn:l.length≤1000000):
  PG Tryz.prog 283 [sci .i64 l.length, .clo (.func 284) [] [.ptr 0 0 0 0]] [cM l] 2 (.ref 1 l.length 0 l.length)
   [(1, .arr 1 l.length (qag l i0 2 l[i0].length l.length)),(2, .arr 2 0 (ir eII l[i0])),(0,cM [])]:=by
 refine qba 200 (fn:=Tryz.f283) Tryz.func283 rfl (by simp [Tryz.ntmps283]) 1 rfl zC zC zC zC zC fun hs=>?_
 try refine zW ?_
 refine qbk 5 1 trivial rfl (.inr rfl) ?_
 (refine walk_trim [1,5,6,7] trivial zL ?_;((try refine zW ?_);(try with_reducible exact True.intro)))
 refine qal 200 200 (fun i:Nat × Bool=>i.1≤l.length∧(i.2=true↔i0 < i.1))
  (fun i=>match i.2 with
   | false=>⟨16, [(1, .clo (.func 284) [] [.ptr 0 0 0 0]),(5, .ref 1 i.1 0 i.1),(6,sci .i64 l.length),(7,sci .i64 i.1)], [],2, [(1, .arr 1 i.1 (ir eMs (l.take i.1))),(0,cM (l.drop i.1))]⟩
   | true=>⟨16, [(1, .clo (.func 284) [] [.ptr 0 0 0 0]),(5, .ref 1 i.1 0 i.1),(6,sci .i64 l.length),(7,sci .i64 i.1)], [],3, [(1, .arr 1 i.1 (qag l i0 2 l[i0].length i.1)),(2, .arr 2 0 (ir eII l[i0])),(0,cM (l.drop i.1))]⟩) (fun i=>l.length - i.1) (0,false) [] ?_ ?_ ?_
 ·simp
 ·constructor<;>(try simp (disch:=omega) only [go_sem,simprocAttr,zD,zE,Int.natCast_zero,List.take_zero])
 ·rintro⟨i,ph⟩ ⟨h1,h3⟩
  simp only at h1 h3
  cases ph
  ·have hle:i≤i0:=by
    rcases Nat.lt_or_ge i0 i with q | q
    ·have:=h3.2 q;cases this
    ·exact q
   have hl':i < l.length:=by omega
   have htl:(l.take i).length=i:=by rw [List.length_take];omega
   have hmm:min i (min i l.length)=i:=by omega
   have e:l.drop i=l[i]::l.drop (i+1):=List.drop_eq_getElem_cons hl'
   ((try refine zW ?_);(try with_reducible exact True.intro))
   (try simp (disch:=omega) only [go_sem,simprocAttr,zD,zE,e])
   (refine at_g 200 ?_;refine zW ?_;refine qaB [0] (qig l[i] (l.drop (i+1)) (hl _ (List.getElem_mem hl')) (by rw [List.length_drop];omega)) zU ?_;((try refine zW ?_);(try with_reducible exact True.intro)))
   (try simp (disch:=omega) only [go_sem,simprocAttr,zD,zE,eMs,htl])
   rcases Nat.lt_or_ge i i0 with hi | hi
   ·refine⟨(i+1,false), [2],⟨hl',⟨(fun q=>by cases q),(fun q=>by simp only at q;omega)⟩⟩,by simp only;omega,?_⟩
    have e2:l.take (i+1)=l.take i++ [l[i]]:=List.take_succ_eq_append_getElem hl'
    have e3:(l.take i).take i=l.take i:=by rw [List.take_take,Nat.min_self]
    constructor<;>(try simp (disch:=omega) only [go_sem,simprocAttr,zD,zE,e2,e3,eMs,htl,hmm,ir_snoc,List.map_cons,List.map_nil])
   ·obtain rfl:i=i0:=by omega
    refine⟨(i+1,true), [],⟨hl',by simp⟩,by simp only;omega,?_⟩
    have e2:qag l i 2 l[i].length (i+1)=ir eMs (l.take i)++ [[.ref 2 0 0 l[i].length]]:=by
     unfold qag
     rw [List.drop_eq_nil_of_le (by rw [List.length_take];omega)];rfl
    have e3:(l.take i).take i=l.take i:=by rw [List.take_take,Nat.min_self]
    constructor<;>(try simp (disch:=omega) only [go_sem,simprocAttr,zD,zE,e2,e3,htl,hmm])
  ·have hle:i0 < i:=h3.1 rfl
   have hrl:(qag l i0 2 l[i0].length i).length=i:=qhp hle h1
   have hrt:(qag l i0 2 l[i0].length i).take i=qag l i0 2 l[i0].length i:=List.take_of_length_le (by omega)
   try refine zW ?_
   by_cases hl':i < l.length
   ·have e:l.drop i=l[i]::l.drop (i+1):=List.drop_eq_getElem_cons hl'
    have e2:qag l i0 2 l[i0].length (i+1)=qag l i0 2 l[i0].length i++ [(eMs l[i]).map .p]:=qgk hle hl'
    (try simp (disch:=omega) only [go_sem,simprocAttr,zD,zE,e])
    (refine at_g 200 ?_;refine zW ?_;refine qaB [0] (qig l[i] (l.drop (i+1)) (hl _ (List.getElem_mem hl')) (by rw [List.length_drop];omega)) zU ?_;((try refine zW ?_);(try with_reducible exact True.intro)))
    (try simp (disch:=omega) only [go_sem,simprocAttr,zD,zE,eMs,hrl,hrt])
    refine⟨(i+1,true), [3],⟨hl',⟨fun _=>by simp only;omega,fun _=>rfl⟩⟩,by simp only;omega,?_⟩
    constructor<;>(try simp (disch:=omega) only [go_sem,simprocAttr,zD,zE,e2,hrt,hrl,eMs,List.map_cons,List.map_nil])
   ·obtain rfl:i=l.length:=by omega
    have e:l.drop l.length= []:=List.drop_length
    (try simp (disch:=omega) only [go_sem,simprocAttr,zD,zE,e,hrl,hrt])
    have er:rnRw (rsel 1 [1,2]) (qag l i0 2 l[i0].length l.length)=qag l i0 2 l[i0].length l.length:=qk9
    refine⟨[1,2],⟨rfl,by simp [geAll],by simp [qao,qao.nin]⟩,rfl,?_⟩
    refine⟨⟨rfl,rfl,?_⟩,?_⟩
    ·rw [er];exact qaw _
    ·exact⟨rfl,rfl,qaw _⟩
theorem qkr {l:List (List (Int × Int))} {i0 k i:Nat}:rnRw (rsel 0 [1,2]) (qag l i0 1 k i)=qag l i0 2 k i:=by
 unfold qag
 simp only [go_sem]
 rfl
theorem qks {l:List (List (Int × Int))} {i0 k i:Nat}:rnRw (ridx [0] 1) (qag l i0 2 k i)=qag l i0 2 k i:=by
 unfold qag
 simp only [go_sem]
theorem qoo (l:List (List (Int × Int))) (i0:Nat) (h0:i0 < l.length) (hl: ∀x∈l,x.length≤1000000) (hn:l.length≤1000000):
  PG Tryz.prog 227 [lMs l] [] 2 (.ref 0 l.length 0 l.length)
   [(0, .arr 1 l.length (qag l i0 1 l[i0].length l.length)),(1, .arr 2 0 (ir eII l[i0]))]:=by
 refine qba 200 (fn:=Tryz.f227) Tryz.func227 rfl (by simp [Tryz.ntmps227]) 0 rfl zC zC zC zC zC fun hs=>?_
 try refine zW ?_
 (refine at_g 200 ?_;refine zW ?_;refine qaB [0] (qmh l i0 h0 hl hn) zU ?_;((try refine zW ?_);(try with_reducible exact True.intro)))
 (try simp (disch:=omega) only [go_sem,simprocAttr,zD,zE,qks])
 refine⟨[1,2],⟨rfl,by simp [geAll],by simp [qao,qao.nin]⟩,rfl,?_⟩
 refine⟨⟨rfl,rfl,?_⟩,?_⟩
 ·rw [qkr];exact qaw _
 ·exact⟨rfl,rfl,qaw _⟩
theorem qlM (a:Int) (r:List Int) (hn:r.length≤1000000):PG Tryz.prog 219 [lI (a::r)] [] 1 (.ref 0 0 0 (r.length+1)) [(0, .arr 1 0 (ir eI (a::r)))]:=by
 have e:pr eI (a::r)=eI a::pr eI r:=rfl
 refine qba 200 (fn:=Tryz.f219) Tryz.func219 rfl (by simp [Tryz.ntmps219]) 0 rfl zC zC zC zC zC fun hs=>?_
 ((try refine zW ?_);(try with_reducible exact True.intro))
 (try simp (disch:=omega) only [go_sem,simprocAttr,zD,zE,e])
 refine⟨[0],⟨rfl,by simp [geAll],by simp [qao,qao.nin]⟩,rfl,?_⟩
 exact⟨rfl,rfl,qaw _⟩
theorem qkF:PG Tryz.prog 219 [lI []] [] 1 (.ref 0 0 0 0) [(0, .arr 1 0 [])]:=by
 refine qba 200 (fn:=Tryz.f219) Tryz.func219 rfl (by simp [Tryz.ntmps219]) 0 rfl zC zC zC zC zC fun hs=>?_
 (try simp only [go_sem,simprocAttr,pr,List.map_nil])
 refine qcI (sz:=1) (rows:= []) rfl (by kernel_rfl) (by decide) fun b hb=>?_
 cases b
 ·refine vc_sound _ 200 _ _ ?_
  try refine zW ?_
  refine⟨[0],⟨rfl,by simp [geAll],by simp [qao,qao.nin]⟩,rfl,?_⟩
  exact⟨rfl,rfl,qaw _⟩
 ·refine vc_sound _ 6 _ _ ?_
  try refine zW ?_
  refine qbk 2 1 trivial rfl (.inr rfl) ?_
  refine vc_sound _ 200 _ _ ?_
  try refine zW ?_
  refine⟨[0],⟨rfl,by simp [geAll],by simp [qao,qao.nin]⟩,rfl,?_⟩
  exact⟨rfl,rfl,qaw _⟩
theorem qlL (l:List Int) (hn:l.length≤1000000):PG Tryz.prog 219 [lI l] [] 1 (.ref 0 0 0 l.length) [(0, .arr 1 0 (ir eI l))]:=by
 cases l with
 | nil=>exact qkF
 | cons a r=>exact qlM a r (by rw [List.length_cons] at hn;omega)
theorem qnj (x:List Int) (r:List (List Int)) (hx:x.length≤1000000) (hr:r.length≤1000000):
  PG Tryz.prog 286 [.ptr 0 0 0 0] [cL (x::r)] 1 (.ref 1 0 0 x.length) [(1, .arr 1 0 (ir eI x)),(0,cL r)]:=by
 refine qba 200 (fn:=Tryz.f286) Tryz.func286 rfl (by simp [Tryz.ntmps286]) 1 rfl zC zC zC zC zC fun hs=>?_
 ((try refine zW ?_);(try with_reducible exact True.intro))
 (try simp (disch:=omega) only [go_sem,simprocAttr,zD,zE,eLs])
 (refine at_g 200 ?_;refine zW ?_;refine qaB [] (qlL x hx) zU ?_;((try refine zW ?_);(try with_reducible exact True.intro)))
 (try simp (disch:=omega) only [go_sem,simprocAttr,zD,zE,eLs,Nat.add_sub_cancel,List.take_length])
 exact⟨[1],⟨rfl,by simp [geAll],by simp [qao,qao.nin]⟩,rfl,rfl,rfl,qaw _⟩
theorem qfB {l:List (List (Int × Int))} {i0 k i:Nat}:rnRw (rsel 0 [2,3]) (qag l i0 1 k i)=qag l i0 3 k i:=by
 unfold qag
 simp only [go_sem]
 rfl
theorem qfC {l:List (List (Int × Int))} {i0 k i:Nat}:rnRw (ridx [] 2) (qag l i0 1 k i)=qag l i0 3 k i:=by
 unfold qag
 simp only [go_sem]
theorem qmG (p:Hs) (h:gHs p) (i0:Nat) (h0:i0 < p.inn.length):PG Tryz.prog 170 [qhu p] [] 2
  (.agg [sci .i64 p.node,sci .i64 p.state,sci .i64 p.steps,nil0, .ref 0 p.inn.length 0 p.inn.length,lLs p.out])
  [(0, .arr 1 p.inn.length (qag p.inn i0 1 p.inn[i0].length p.inn.length)),(1, .arr 2 0 (ir eII p.inn[i0]))]:=by
 obtain⟨h2,h3,h4,h5⟩:=h
 refine qba 200 (fn:=Tryz.f170) Tryz.func170 rfl (by simp [Tryz.ntmps170]) 0 rfl zC zC zC zC zC fun hs=>?_
 try refine zW ?_
 (refine walk_trim [1,2,75] trivial zL ?_;refine zW ?_;refine irun_walk (id:=1) (n:=200) [none,none,none,none,none,none,none,none,some [0,1,2,3,4,5,9,10,12,13],none,none,some [0,1,2,3,4,5,12,13],none,none,some [0,1,2,3,4,5],none,some []] qan (by kernel_rfl) ?_)
 try refine zW ?_
 (refine qhT ?_;refine zW ?_;refine callA_of (qeQ) zB ?_;((try refine zW ?_);(try with_reducible exact True.intro)))
 try refine zW ?_
 (refine qes ?_;refine zW ?_;refine qaB [] (qoo p.inn i0 h0 h4 h2) zU ?_;((try refine zW ?_);(try with_reducible exact True.intro)))
 try refine zW ?_
 (refine at_dcall ?_;refine zW ?_;refine callA_of (qnk _ h5 h3) zB ?_;((try refine zW ?_);(try with_reducible exact True.intro)))
 (try simp (maxSteps:=2000000) (disch:=omega) only [go_sem,simprocAttr,zD,zE,qfC])
 refine⟨[2,3],⟨rfl,by simp [geAll],by simp [qao,qao.nin]⟩,rfl,?_⟩
 refine⟨⟨rfl,rfl,?_⟩,?_⟩
 ·rw [qfB];exact qaw _
 ·exact⟨rfl,rfl,qaw _⟩
@[go_sem] theorem toldHs_eq {h:Hs}:qhu h= .agg [sci .i64 h.node,sci .i64 h.state,sci .i64 h.steps,nil0,lMs h.inn,lLs h.out]:=(rfl)
theorem ql4 (h:Hs) (hg:gHs h) (i0:Nat) (h0:i0 < h.inn.length):PG Tryz.prog 95 [lHs h] [] 2
  (.agg [sci .i64 h.node,sci .i64 h.state,sci .i64 h.steps, .ref 0 h.inn.length 0 h.inn.length,lLs h.out])
  [(0, .arr 1 h.inn.length (qag h.inn i0 1 h.inn[i0].length h.inn.length)),(1, .arr 2 0 (ir eII h.inn[i0]))]:=by
 refine qba 200 (fn:=Tryz.f95) Tryz.func95 rfl (by simp [Tryz.ntmps95]) 0 rfl zC zC zC zC zC fun hs=>?_
 try refine zW ?_
 (refine qaf 200 ?_;refine zW ?_;refine callA_of (qhv h) zB ?_;((try refine zW ?_);(try with_reducible exact True.intro)))
 try refine zW ?_
 (refine qlY 200 ?_;refine zW ?_;refine qaB [] (qmG h hg i0 h0) zU ?_;((try refine zW ?_);(try with_reducible exact True.intro)))
 (try simp (maxSteps:=2000000) (disch:=omega) only [go_sem,simprocAttr,zD,zE,qfC])
 refine⟨[2,3],⟨rfl,by simp [geAll],by simp [qao,qao.nin]⟩,rfl,?_⟩
 refine⟨⟨rfl,rfl,?_⟩,?_⟩
 ·rw [qfB];exact qaw _
 ·exact⟨rfl,rfl,qaw _⟩
end Go.Proofs.NO
