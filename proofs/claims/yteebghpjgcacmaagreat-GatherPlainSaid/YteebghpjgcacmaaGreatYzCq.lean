/- Facts that the proofs of this claim lean on. -/
import Derived.Test.YteebghpjgcacmaaGreatYzP2
import Derived.Test.YteebghpjgcacmaaGreatIdGr
set_option linter.unusedSimpArgs false
set_option linter.unusedVariables false
/- Clone with its block. -/
namespace Go.Proofs.GY
open Go Go.Idl Go.Proofs
set_option maxHeartbeats 20000000
set_option maxRecDepth 100000
theorem CloneM_new (a:Int × Int) (r:List (Int × Int)) (hn:r.length≤1000000):PG Tryz.prog 103 [lII (a::r)] [] 1 (.ref 0 0 0 (r.length+1)) [(0, .arr 2 0 (ir eII (a::r)))]:=by
 have e:pr eII (a::r)=eII a::pr eII r:=rfl
 refine qa1 200 (fn:=Tryz.f103) Tryz.func103 rfl (by simp [Tryz.ntmps103]) 0 rfl zC zC zC zC zC fun hs=>?_
 ((try refine zW ?_);(try with_reducible exact True.intro))
 (try simp (disch:=omega) only [go_sem,simprocAttr,zD,zE,e])
 refine⟨[0],⟨rfl,by simp [geAll],by simp [qas,qas.nin]⟩,rfl,?_⟩
 exact⟨rfl,rfl,qay _⟩
theorem qlr:PG Tryz.prog 103 [lII []] [] 1 (.ref 0 0 0 0) [(0, .arr 2 0 [])]:=by
 refine qa1 200 (fn:=Tryz.f103) Tryz.func103 rfl (by simp [Tryz.ntmps103]) 0 rfl zC zC zC zC zC fun hs=>?_
 (try simp only [go_sem,simprocAttr,pr,List.map_nil])
 refine qdc (sz:=2) (rows:= []) rfl (by kernel_rfl) (by decide) fun b hb=>?_
 cases b
 ·refine vc_sound _ 200 _ _ ?_
  try refine zW ?_
  refine⟨[0],⟨rfl,by simp [geAll],by simp [qas,qas.nin]⟩,rfl,?_⟩
  exact⟨rfl,rfl,qay _⟩
 ·refine vc_sound _ 6 _ _ ?_
  try refine zW ?_
  refine walk_own 2 2 trivial rfl (.inr rfl) ?_
  refine vc_sound _ 200 _ _ ?_
  try refine zW ?_
  refine⟨[0],⟨rfl,by simp [geAll],by simp [qas,qas.nin]⟩,rfl,?_⟩
  exact⟨rfl,rfl,qay _⟩
theorem qe7 (l:List (Int × Int)) (hn:l.length≤1000000):PG Tryz.prog 103 [lII l] [] 1 (.ref 0 0 0 l.length) [(0, .arr 2 0 (ir eII l))]:=by
 cases l with
 | nil=>exact qlr
 | cons a r=>exact CloneM_new a r (by rw [List.length_cons] at hn;omega)
theorem qje (x:List (Int × Int)) (r:List (List (Int × Int))) (hx:x.length≤1000000) (hr:r.length≤1000000):
  PG Tryz.prog 115 [.ptr 0 0 0 0] [cM (x::r)] 1 (.ref 1 0 0 x.length) [(1, .arr 2 0 (ir eII x)),(0,cM r)]:=by
 refine qa1 200 (fn:=Tryz.f115) Tryz.func115 rfl (by simp [Tryz.ntmps115]) 1 rfl zC zC zC zC zC fun hs=>?_
 ((try refine zW ?_);(try with_reducible exact True.intro))
 (try simp (disch:=omega) only [go_sem,simprocAttr,zD,zE,eMs])
 (refine at_g 200 ?_;refine zW ?_;refine qav [] (qe7 x hx) zU ?_;((try refine zW ?_);(try with_reducible exact True.intro)))
 (try simp (disch:=omega) only [go_sem,simprocAttr,zD,zE,eMs,Nat.add_sub_cancel,List.take_length])
 exact⟨[1],⟨rfl,by simp [geAll],by simp [qas,qas.nin]⟩,rfl,rfl,rfl,qay _⟩
def qal (l:List (List (Int × Int))) (i0 b n:Nat) (i:Nat):List (List IV):=ir eMs (l.take i0)++ [.ref b 0 0 n]::ir eMs ((l.take i).drop (i0+1))
@[go_sem] theorem qqR {l:List (List (Int × Int))} {i0 b k i n:Nat}:qbj n (qal l i0 b k i)=(b < n):=by
  unfold qal
  rw [ql4,qcD]
  simp [qbj,qcD,bels,bel]
theorem qih {l:List (List (Int × Int))} {i0 b k i:Nat} (h:i0 < i) (hi:i≤l.length):(qal l i0 b k i).length=i:=by
 unfold qal ir
 simp only [List.length_append,List.length_cons,List.length_map,List.length_take,List.length_drop]
 omega
theorem qg5 {l:List (List (Int × Int))} {i0 b k i:Nat} (h:i0 < i) (hi:i < l.length):qal l i0 b k (i+1)=qal l i0 b k i++ [(eMs l[i]).map .p]:=by
 unfold qal
 rw [List.take_succ_eq_append_getElem hi,List.drop_append_of_le_length (by rw [List.length_take];omega),ir_snoc,List.append_assoc,List.cons_append]
theorem ql3 {l:List (List (Int × Int))} {i0 k i:Nat}:rnRw (rsel 1 [1,2]) (qal l i0 2 k i)=qal l i0 2 k i:=by
 unfold qal
 simp only [go_sem]
 rfl
theorem qna (l:List (List (Int × Int))) (i0:Nat) (h0:i0 < l.length) (hl: ∀x∈l,x.length≤1000000) (hn:l.length≤1000000):
  PG Tryz.prog 114 [sci .i64 l.length, .clo (.func 115) [] [.ptr 0 0 0 0]] [cM l] 2 (.ref 1 l.length 0 l.length)
   [(1, .arr 1 l.length (qal l i0 2 l[i0].length l.length)),(2, .arr 2 0 (ir eII l[i0])),(0,cM [])]:=by
 refine qa1 200 (fn:=Tryz.f114) Tryz.func114 rfl (by simp [Tryz.ntmps114]) 1 rfl zC zC zC zC zC fun hs=>?_
 try refine zW ?_
 refine walk_own 5 1 trivial rfl (.inr rfl) ?_
 (refine walk_trim [1,5,6,7] trivial zL ?_;((try refine zW ?_);(try with_reducible exact True.intro)))
 refine qad 200 200 (fun i:Nat × Bool=>i.1≤l.length∧(i.2=true↔i0 < i.1))
  (fun i=>match i.2 with
   | false=>⟨16, [(1, .clo (.func 115) [] [.ptr 0 0 0 0]),(5, .ref 1 i.1 0 i.1),(6,sci .i64 l.length),(7,sci .i64 i.1)], [],2, [(1, .arr 1 i.1 (ir eMs (l.take i.1))),(0,cM (l.drop i.1))]⟩
   | true=>⟨16, [(1, .clo (.func 115) [] [.ptr 0 0 0 0]),(5, .ref 1 i.1 0 i.1),(6,sci .i64 l.length),(7,sci .i64 i.1)], [],3, [(1, .arr 1 i.1 (qal l i0 2 l[i0].length i.1)),(2, .arr 2 0 (ir eII l[i0])),(0,cM (l.drop i.1))]⟩) (fun i=>l.length - i.1) (0,false) [] ?_ ?_ ?_
 ·simp
 ·constructor<;>(try simp (disch:=omega) only [go_sem,simprocAttr,zD,zE,Int.natCast_zero,List.take_zero])
 ·rintro⟨i,ph⟩ ⟨h1,h3⟩
  simp only at h1 h3
  cases ph
  ·have hle:i≤i0:=by
    rcases Nat.lt_or_ge i0 i with q | q
    ·have:=h3.2 q;cases this
    ·exact q
   have hl':i < l.length:=by omega
   have htl:(l.take i).length=i:=by rw [List.length_take];omega
   have hmm:min i (min i l.length)=i:=by omega
   have e:l.drop i=l[i]::l.drop (i+1):=List.drop_eq_getElem_cons hl'
   ((try refine zW ?_);(try with_reducible exact True.intro))
   (try simp (disch:=omega) only [go_sem,simprocAttr,zD,zE,e])
   (refine at_g 200 ?_;refine zW ?_;refine qav [0] (qje l[i] (l.drop (i+1)) (hl _ (List.getElem_mem hl')) (by rw [List.length_drop];omega)) zU ?_;((try refine zW ?_);(try with_reducible exact True.intro)))
   (try simp (disch:=omega) only [go_sem,simprocAttr,zD,zE,eMs,htl])
   rcases Nat.lt_or_ge i i0 with hi | hi
   ·refine⟨(i+1,false), [2],⟨hl',⟨(fun q=>by cases q),(fun q=>by simp only at q;omega)⟩⟩,by simp only;omega,?_⟩
    have e2:l.take (i+1)=l.take i++ [l[i]]:=List.take_succ_eq_append_getElem hl'
    have e3:(l.take i).take i=l.take i:=by rw [List.take_take,Nat.min_self]
    constructor<;>(try simp (disch:=omega) only [go_sem,simprocAttr,zD,zE,e2,e3,eMs,htl,hmm,ir_snoc,List.map_cons,List.map_nil])
   ·obtain rfl:i=i0:=by omega
    refine⟨(i+1,true), [],⟨hl',by simp⟩,by simp only;omega,?_⟩
    have e2:qal l i 2 l[i].length (i+1)=ir eMs (l.take i)++ [[.ref 2 0 0 l[i].length]]:=by
     unfold qal
     rw [List.drop_eq_nil_of_le (by rw [List.length_take];omega)];rfl
    have e3:(l.take i).take i=l.take i:=by rw [List.take_take,Nat.min_self]
    constructor<;>(try simp (disch:=omega) only [go_sem,simprocAttr,zD,zE,e2,e3,htl,hmm])
  ·have hle:i0 < i:=h3.1 rfl
   have hrl:(qal l i0 2 l[i0].length i).length=i:=qih hle h1
   have hrt:(qal l i0 2 l[i0].length i).take i=qal l i0 2 l[i0].length i:=List.take_of_length_le (by omega)
   try refine zW ?_
   by_cases hl':i < l.length
   ·have e:l.drop i=l[i]::l.drop (i+1):=List.drop_eq_getElem_cons hl'
    have e2:qal l i0 2 l[i0].length (i+1)=qal l i0 2 l[i0].length i++ [(eMs l[i]).map .p]:=qg5 hle hl'
    (try simp (disch:=omega) only [go_sem,simprocAttr,zD,zE,e])
    (refine at_g 200 ?_;refine zW ?_;refine qav [0] (qje l[i] (l.drop (i+1)) (hl _ (List.getElem_mem hl')) (by rw [List.length_drop];omega)) zU ?_;((try refine zW ?_);(try with_reducible exact True.intro)))
    (try simp (disch:=omega) only [go_sem,simprocAttr,zD,zE,eMs,hrl,hrt])
    refine⟨(i+1,true), [3],⟨hl',⟨fun _=>by simp only;omega,fun _=>rfl⟩⟩,by simp only;omega,?_⟩
    constructor<;>(try simp (disch:=omega) only [go_sem,simprocAttr,zD,zE,e2,hrt,hrl,eMs,List.map_cons,List.map_nil])
   ·obtain rfl:i=l.length:=by omega
    have e:l.drop l.length= []:=List.drop_length
    (try simp (disch:=omega) only [go_sem,simprocAttr,zD,zE,e,hrl,hrt])
    have er:rnRw (rsel 1 [1,2]) (qal l i0 2 l[i0].length l.length)=qal l i0 2 l[i0].length l.length:=ql3
    refine⟨[1,2],⟨rfl,by simp [geAll],by simp [qas,qas.nin]⟩,rfl,?_⟩
    refine⟨⟨rfl,rfl,?_⟩,?_⟩
    ·rw [er];exact qay _
    ·exact⟨rfl,rfl,qay _⟩
theorem qk8 {l:List (List (Int × Int))} {i0 k i:Nat}:rnRw (rsel 0 [1,2]) (qal l i0 1 k i)=qal l i0 2 k i:=by
 unfold qal
 simp only [go_sem]
 rfl
theorem qk9 {l:List (List (Int × Int))} {i0 k i:Nat}:rnRw (ridx [0] 1) (qal l i0 2 k i)=qal l i0 2 k i:=by
 unfold qal
 simp only [go_sem]
theorem qpy (l:List (List (Int × Int))) (i0:Nat) (h0:i0 < l.length) (hl: ∀x∈l,x.length≤1000000) (hn:l.length≤1000000):
  PG Tryz.prog 88 [lMs l] [] 2 (.ref 0 l.length 0 l.length)
   [(0, .arr 1 l.length (qal l i0 1 l[i0].length l.length)),(1, .arr 2 0 (ir eII l[i0]))]:=by
 refine qa1 200 (fn:=Tryz.f88) Tryz.func88 rfl (by simp [Tryz.ntmps88]) 0 rfl zC zC zC zC zC fun hs=>?_
 try refine zW ?_
 (refine at_g 200 ?_;refine zW ?_;refine qav [0] (qna l i0 h0 hl hn) zU ?_;((try refine zW ?_);(try with_reducible exact True.intro)))
 (try simp (disch:=omega) only [go_sem,simprocAttr,zD,zE,qk9])
 refine⟨[1,2],⟨rfl,by simp [geAll],by simp [qas,qas.nin]⟩,rfl,?_⟩
 refine⟨⟨rfl,rfl,?_⟩,?_⟩
 ·rw [qk8];exact qay _
 ·exact⟨rfl,rfl,qay _⟩
theorem qmI (a:Int) (r:List Int) (hn:r.length≤1000000):PG Tryz.prog 87 [lI (a::r)] [] 1 (.ref 0 0 0 (r.length+1)) [(0, .arr 1 0 (ir eI (a::r)))]:=by
 have e:pr eI (a::r)=eI a::pr eI r:=rfl
 refine qa1 200 (fn:=Tryz.f87) Tryz.func87 rfl (by simp [Tryz.ntmps87]) 0 rfl zC zC zC zC zC fun hs=>?_
 ((try refine zW ?_);(try with_reducible exact True.intro))
 (try simp (disch:=omega) only [go_sem,simprocAttr,zD,zE,e])
 refine⟨[0],⟨rfl,by simp [geAll],by simp [qas,qas.nin]⟩,rfl,?_⟩
 exact⟨rfl,rfl,qay _⟩
theorem qlp:PG Tryz.prog 87 [lI []] [] 1 (.ref 0 0 0 0) [(0, .arr 1 0 [])]:=by
 refine qa1 200 (fn:=Tryz.f87) Tryz.func87 rfl (by simp [Tryz.ntmps87]) 0 rfl zC zC zC zC zC fun hs=>?_
 (try simp only [go_sem,simprocAttr,pr,List.map_nil])
 refine qdc (sz:=1) (rows:= []) rfl (by kernel_rfl) (by decide) fun b hb=>?_
 cases b
 ·refine vc_sound _ 200 _ _ ?_
  try refine zW ?_
  refine⟨[0],⟨rfl,by simp [geAll],by simp [qas,qas.nin]⟩,rfl,?_⟩
  exact⟨rfl,rfl,qay _⟩
 ·refine vc_sound _ 6 _ _ ?_
  try refine zW ?_
  refine walk_own 2 1 trivial rfl (.inr rfl) ?_
  refine vc_sound _ 200 _ _ ?_
  try refine zW ?_
  refine⟨[0],⟨rfl,by simp [geAll],by simp [qas,qas.nin]⟩,rfl,?_⟩
  exact⟨rfl,rfl,qay _⟩
theorem qmH (l:List Int) (hn:l.length≤1000000):PG Tryz.prog 87 [lI l] [] 1 (.ref 0 0 0 l.length) [(0, .arr 1 0 (ir eI l))]:=by
 cases l with
 | nil=>exact qlp
 | cons a r=>exact qmI a r (by rw [List.length_cons] at hn;omega)
theorem qop (x:List Int) (r:List (List Int)) (hx:x.length≤1000000) (hr:r.length≤1000000):
  PG Tryz.prog 117 [.ptr 0 0 0 0] [cL (x::r)] 1 (.ref 1 0 0 x.length) [(1, .arr 1 0 (ir eI x)),(0,cL r)]:=by
 refine qa1 200 (fn:=Tryz.f117) Tryz.func117 rfl (by simp [Tryz.ntmps117]) 1 rfl zC zC zC zC zC fun hs=>?_
 ((try refine zW ?_);(try with_reducible exact True.intro))
 (try simp (disch:=omega) only [go_sem,simprocAttr,zD,zE,eLs])
 (refine at_g 200 ?_;refine zW ?_;refine qav [] (qmH x hx) zU ?_;((try refine zW ?_);(try with_reducible exact True.intro)))
 (try simp (disch:=omega) only [go_sem,simprocAttr,zD,zE,eLs,Nat.add_sub_cancel,List.take_length])
 exact⟨[1],⟨rfl,by simp [geAll],by simp [qas,qas.nin]⟩,rfl,rfl,rfl,qay _⟩
theorem qgo {l:List (List (Int × Int))} {i0 k i:Nat}:rnRw (rsel 0 [2,3]) (qal l i0 1 k i)=qal l i0 3 k i:=by
 unfold qal
 simp only [go_sem]
 rfl
theorem qgp {l:List (List (Int × Int))} {i0 k i:Nat}:rnRw (ridx [] 2) (qal l i0 1 k i)=qal l i0 3 k i:=by
 unfold qal
 simp only [go_sem]
theorem qnI (p:Hs) (h:gHs p) (i0:Nat) (h0:i0 < p.inn.length):PG Tryz.prog 46 [qe5 p] [] 2
  (.agg [sci .i64 p.node,sci .i64 p.state,sci .i64 p.steps,nil0, .ref 0 p.inn.length 0 p.inn.length,lLs p.out])
  [(0, .arr 1 p.inn.length (qal p.inn i0 1 p.inn[i0].length p.inn.length)),(1, .arr 2 0 (ir eII p.inn[i0]))]:=by
 obtain⟨h2,h3,h4,h5⟩:=h
 refine qa1 200 (fn:=Tryz.f46) Tryz.func46 rfl (by simp [Tryz.ntmps46]) 0 rfl zC zC zC zC zC fun hs=>?_
 try refine zW ?_
 (refine walk_trim [1,2,68] trivial zL ?_;refine zW ?_;refine irun_walk (id:=1) (n:=200) [none,none,none,none,none,none,none,none,some [0,1,2,3,4,5,9,10,12,13],none,none,some [0,1,2,3,4,5,12,13],none,none,some [0,1,2,3,4,5],none,some []] qap (by kernel_rfl) ?_)
 try refine zW ?_
 (refine qfR ?_;refine zW ?_;refine callA_of (qd9) zB ?_;((try refine zW ?_);(try with_reducible exact True.intro)))
 try refine zW ?_
 (refine qfe ?_;refine zW ?_;refine qav [] (qpy p.inn i0 h0 h4 h2) zU ?_;((try refine zW ?_);(try with_reducible exact True.intro)))
 try refine zW ?_
 (refine at_dcall ?_;refine zW ?_;refine callA_of (qjf _ h5 h3) zB ?_;((try refine zW ?_);(try with_reducible exact True.intro)))
 (try simp (maxSteps:=2000000) (disch:=omega) only [go_sem,simprocAttr,zD,zE,qgp])
 refine⟨[2,3],⟨rfl,by simp [geAll],by simp [qas,qas.nin]⟩,rfl,?_⟩
 refine⟨⟨rfl,rfl,?_⟩,?_⟩
 ·rw [qgo];exact qay _
 ·exact⟨rfl,rfl,qay _⟩
@[go_sem] theorem toldHs_eq {h:Hs}:qe5 h= .agg [sci .i64 h.node,sci .i64 h.state,sci .i64 h.steps,nil0,lMs h.inn,lLs h.out]:=(rfl)
theorem qm0 (h:Hs) (hg:gHs h) (i0:Nat) (h0:i0 < h.inn.length):PG Tryz.prog 76 [lHs h] [] 2
  (.agg [sci .i64 h.node,sci .i64 h.state,sci .i64 h.steps, .ref 0 h.inn.length 0 h.inn.length,lLs h.out])
  [(0, .arr 1 h.inn.length (qal h.inn i0 1 h.inn[i0].length h.inn.length)),(1, .arr 2 0 (ir eII h.inn[i0]))]:=by
 refine qa1 200 (fn:=Tryz.f76) Tryz.func76 rfl (by simp [Tryz.ntmps76]) 0 rfl zC zC zC zC zC fun hs=>?_
 try refine zW ?_
 (refine qac 200 ?_;refine zW ?_;refine callA_of (qdZ h) zB ?_;((try refine zW ?_);(try with_reducible exact True.intro)))
 try refine zW ?_
 (refine qmT 200 ?_;refine zW ?_;refine qav [] (qnI h hg i0 h0) zU ?_;((try refine zW ?_);(try with_reducible exact True.intro)))
 (try simp (maxSteps:=2000000) (disch:=omega) only [go_sem,simprocAttr,zD,zE,qgp])
 refine⟨[2,3],⟨rfl,by simp [geAll],by simp [qas,qas.nin]⟩,rfl,?_⟩
 refine⟨⟨rfl,rfl,?_⟩,?_⟩
 ·rw [qgo];exact qay _
 ·exact⟨rfl,rfl,qay _⟩
end Go.Proofs.GY
