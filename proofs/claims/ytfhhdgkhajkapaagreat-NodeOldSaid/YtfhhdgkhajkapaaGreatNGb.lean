/- Facts that the proofs of this claim lean on. -/
import Derived.Test.YtfhhdgkhajkapaaGreatNQB
import Derived.Test.YtfhhdgkhajkapaaGreatGPm
set_option linter.unusedSimpArgs false
set_option linter.unusedVariables false
/- What a node may tell: the document's answer. -/
namespace Go.Proofs.NO
open Go Go.Idl Go.Proofs Go.Proofs.Tryz
set_option maxHeartbeats 20000000
set_option maxRecDepth 100000
theorem qkQ (h:Pc) (hg:gPc h):Pure prog 113 [lPc h] (scb (tB (qaA h))):=by
 obtain⟨node,state,steps,sent,inn,out⟩:=h
 obtain⟨b1,b2,b3,b4,b5⟩:=hg
 simp only at b1 b2 b3 b4 b5
 have bad: ∀ {q:Prop},(qaA ⟨node,state,steps,sent,inn,out⟩→q)→ ¬q→tB (qaA ⟨node,state,steps,sent,inn,out⟩)=false:=fun f g=>qaf fun h=>g (f h)
 refine pcall0 200 (fn:=f113) func113 rfl (by simp [ntmps113]) zB zB fun hs=>?_
 try refine zW ?_
 by_cases n0:node < 0
 ·have e:=bad (fun q=>q.1) (by simp only;omega)
  (try simp (maxSteps:=2000000) (disch:=omega) only [go_sem,simprocAttr,zD,zE,e])
 by_cases n1:5 < node
 ·have e:=bad (fun q=>q.1) (by simp only;omega)
  (try simp (maxSteps:=2000000) (disch:=omega) only [go_sem,simprocAttr,zD,zE,e])
 by_cases s0:state < 0
 ·have e:=bad (fun q=>q.2.1) (by simp only;omega)
  (try simp (maxSteps:=2000000) (disch:=omega) only [go_sem,simprocAttr,zD,zE,e])
 by_cases s1:7 < state
 ·have e:=bad (fun q=>q.2.1) (by simp only;omega)
  (try simp (maxSteps:=2000000) (disch:=omega) only [go_sem,simprocAttr,zD,zE,e])
 by_cases h0:steps < 0
 ·have e:=bad (fun q=>q.2.2.1) (by simp only;omega)
  (try simp (maxSteps:=2000000) (disch:=omega) only [go_sem,simprocAttr,zD,zE,e])
 by_cases h1:2147483647 < steps
 ·have e:=bad (fun q=>q.2.2.2.1) (by simp only;omega)
  (try simp (maxSteps:=2000000) (disch:=omega) only [go_sem,simprocAttr,zD,zE,e])
 by_cases h00:5 < sent.length
 ·have e:=bad (fun q=>q.2.2.2.2.1) (by simp only;omega)
  (try simp (maxSteps:=2000000) (disch:=omega) only [go_sem,simprocAttr,zD,zE,e])
 by_cases h2:5 < inn.length
 ·have e:=bad (fun q=>q.2.2.2.2.2.1) (by simp only;omega)
  (try simp (maxSteps:=2000000) (disch:=omega) only [go_sem,simprocAttr,zD,zE,e])
 by_cases h3:5 < out.length
 ·have e:=bad (fun q=>q.2.2.2.2.2.2.1) (by simp only;omega)
  (try simp (maxSteps:=2000000) (disch:=omega) only [go_sem,simprocAttr,zD,zE,e])
 try refine zO ?_
 (refine walk_trim [1,3] trivial zL ?_;((try refine zW ?_);(try with_reducible exact True.intro)))
 refine qac 200 200 (fun i:Nat=>i≤sent.length∧ ∀(k:Nat) (x:Int),k < i→sent[k]? =some x→0≤x∧x≤500)
  (fun i=>⟨167, [(1, .ptr 0 0 0 0),(3,sci .i64 i)], [],1, [(0, .arr 6 0 [[sci .i64 node,sci .i64 state,sci .i64 steps,lI sent,lMs inn,lLs out]])]⟩) (fun i=>sent.length - i) (0) [] ?_ ?_ ?_
 ·simp
 ·constructor<;>(try simp (maxSteps:=2000000) (disch:=omega) only [go_sem,simprocAttr,zD,zE,Int.natCast_zero,List.take_of_length_le,List.append_assoc])
 ·rintro i hi
  obtain⟨hi,hinvi⟩:=hi
  try refine zW ?_
  by_cases li:i < sent.length
  ·have sn:=qa0 li hinvi
   have bd: ¬(0≤sent[i]∧sent[i]≤500)→tB (qaA ⟨node,state,steps,sent,inn,out⟩)=false:=fun q=>qaf fun h=>q (h.2.2.2.2.2.2.2.1 i _ li (List.getElem?_eq_getElem li))
   generalize hy:sent[i]=y at *
   by_cases g2:y < 0
   ·have e2:=bd fun q=>by have:=q.1;omega
    (try simp (maxSteps:=2000000) (disch:=omega) only [go_sem,simprocAttr,zD,zE,eI,hy,g2,e2])
   by_cases g3:500 < y
   ·have e2:=bd fun q=>by have:=q.2;omega
    (try simp (maxSteps:=2000000) (disch:=omega) only [go_sem,simprocAttr,zD,zE,eI,hy,g2,g3,e2])
   (try simp (maxSteps:=2000000) (disch:=omega) only [go_sem,simprocAttr,zD,zE,eI,hy,g2,g3])
   refine⟨i+1, [],⟨li,sn ⟨by omega,by omega⟩⟩,by omega,?_⟩
   constructor<;>((try refine zO ?_);(try with_reducible exact True.intro))
  ·obtain rfl:i=sent.length:=by omega
   try refine zO ?_
   (refine walk_trim [1,4] trivial zL ?_;((try refine zW ?_);(try with_reducible exact True.intro)))
   refine qac 200 200 (fun j:Nat=>j≤inn.length∧ ∀(k:Nat) (l:List (Int × Int)),k < j→inn[k]? =some l→RisP 0 l)
    (fun j=>⟨167, [(1, .ptr 0 0 0 0),(4,sci .i64 j)], [],1, [(0, .arr 6 0 [[sci .i64 node,sci .i64 state,sci .i64 steps,lI sent,lMs inn,lLs out]])]⟩) (fun j=>inn.length - j) (0) [] ?_ ?_ ?_
   ·simp
   ·constructor<;>(try simp (maxSteps:=2000000) (disch:=omega) only [go_sem,simprocAttr,zD,zE,Int.natCast_zero,List.take_of_length_le,List.append_assoc])
   ·rintro j hj
    obtain⟨hj,hinvj⟩:=hj
    try refine zW ?_
    by_cases lj:j < inn.length
    ·have sn:=qa0 lj hinvj
     have hb:=b4 inn[j] (List.getElem_mem lj)
     have bd: ¬RisP 0 inn[j]→tB (qaA ⟨node,state,steps,sent,inn,out⟩)=false:=fun q=>qaf fun h=>q (h.2.2.2.2.2.2.2.2.1 j _ lj (List.getElem?_eq_getElem lj))
     generalize hl:inn[j]=l at *
     (try simp (maxSteps:=2000000) (disch:=omega) only [go_sem,simprocAttr,zD,zE,eMs,hl])
     (refine walk_trim [1,4,5,6] trivial zL ?_;((try refine zW ?_);(try with_reducible exact True.intro)))
     refine qan 200 200 (fun s:Nat × Int=>s.1≤l.length∧(RisP s.2 (l.drop s.1)↔RisP 0 l)) (fun s=>⟨167, [(1, .ptr 0 0 0 0),(4,sci .i64 j),(5,sci .i64 s.2),(6,sci .i64 s.1)], [],1, [(0, .arr 6 0 [[sci .i64 node,sci .i64 state,sci .i64 steps,lI sent,lMs inn,lLs out]])]⟩) (fun s=>l.length - s.1) (0,0) ?_ ?_ ?_
     ·simp
     ·constructor<;>(try simp (maxSteps:=2000000) (disch:=omega) only [go_sem,simprocAttr,zD,zE,Int.natCast_zero])
     ·rintro⟨i,last⟩ ⟨k1,k2⟩
      simp only at k1 k2
      try refine zW ?_
      by_cases hi:i < l.length
      ·have e0:l.drop i=l[i]::l.drop (i+1):=List.drop_eq_getElem_cons hi
       rw [e0] at k2
       have bad2: ¬MsgP last l[i]→tB (qaA ⟨node,state,steps,sent,inn,out⟩)=false:=fun q=>bd fun h=>q (k2.2 h).1
       (try simp (maxSteps:=2000000) (disch:=omega) only [go_sem,simprocAttr,zD,zE,eMs,hl,eII])
       generalize l[i]=x at *
       obtain⟨sq,lt⟩:=x
       by_cases g1:sq≤last
       ·have e:=bad2 fun q=>by have:=q.1;simp only at this;omega
        (try simp (maxSteps:=2000000) (disch:=omega) only [go_sem,simprocAttr,zD,zE,g1,e])
       by_cases g2:500 < sq
       ·have e:=bad2 fun q=>by have:=q.2.1;simp only at this;omega
        (try simp (maxSteps:=2000000) (disch:=omega) only [go_sem,simprocAttr,zD,zE,g1,g2,e])
       by_cases g3:lt < 0
       ·have e:=bad2 fun q=>by have:=q.2.2.1;simp only at this;omega
        (try simp (maxSteps:=2000000) (disch:=omega) only [go_sem,simprocAttr,zD,zE,g1,g2,g3,e])
       by_cases g4:3 < lt
       ·have e:=bad2 fun q=>by have:=q.2.2.2;simp only at this;omega
        (try simp (maxSteps:=2000000) (disch:=omega) only [go_sem,simprocAttr,zD,zE,g1,g2,g3,g4,e])
       (try simp (maxSteps:=2000000) (disch:=omega) only [go_sem,simprocAttr,zD,zE,g1,g2,g3,g4])
       refine⟨(i+1,sq),⟨hi,⟨fun q=>k2.1 ⟨⟨by simp only;omega,by simp only;omega,by simp only;omega,by simp only;omega⟩,q⟩,fun q=>(k2.2 q).2⟩⟩,by simp only;omega,?_⟩
       constructor<;>((try refine zO ?_);(try with_reducible exact True.intro))
      ·obtain rfl:i=l.length:=by omega
       have e:RisP 0 l:=k2.1 (by rw [List.drop_length];trivial)
       (try simp (maxSteps:=2000000) (disch:=omega) only [go_sem,simprocAttr,zD,zE,eMs,hl])
       refine⟨j+1, [],⟨lj,sn e⟩,by omega,?_⟩
       constructor<;>((try refine zO ?_);(try with_reducible exact True.intro))
    ·obtain rfl:j=inn.length:=by omega
     try refine zO ?_
     (refine walk_trim [1,8] trivial zL ?_;((try refine zW ?_);(try with_reducible exact True.intro)))
     refine qac 200 200 (fun k:Nat=>k≤out.length∧ ∀(m:Nat) (l:List Int),m < k→out[m]? =some l→l.length≤500∧qdh l)
      (fun k=>⟨167, [(1, .ptr 0 0 0 0),(8,sci .i64 k)], [],1, [(0, .arr 6 0 [[sci .i64 node,sci .i64 state,sci .i64 steps,lI sent,lMs inn,lLs out]])]⟩) (fun k=>out.length - k) (0) [] ?_ ?_ ?_
     ·simp
     ·constructor<;>(try simp (maxSteps:=2000000) (disch:=omega) only [go_sem,simprocAttr,zD,zE,Int.natCast_zero,List.take_of_length_le,List.append_assoc])
     ·rintro k hk
      obtain⟨hk,hinvk⟩:=hk
      try refine zW ?_
      by_cases lk:k < out.length
      ·have sn:=qa0 lk hinvk
       have bd: ¬(out[k].length≤500∧qdh out[k])→tB (qaA ⟨node,state,steps,sent,inn,out⟩)=false:=fun q=>qaf fun h=>q (h.2.2.2.2.2.2.2.2.2 k _ lk (List.getElem?_eq_getElem lk))
       have ho:=b5 out[k] (List.getElem_mem lk)
       generalize hx:out[k]=x at *
       (try simp (maxSteps:=2000000) (disch:=omega) only [go_sem,simprocAttr,zD,zE,eLs,hx])
       by_cases g1:500 < x.length
       ·have e2:=bd fun q=>by have:=q.1;omega
        (try simp (maxSteps:=2000000) (disch:=omega) only [go_sem,simprocAttr,zD,zE,e2])
       try refine zO ?_
       (refine walk_trim [1,8,9] trivial zL ?_;((try refine zW ?_);(try with_reducible exact True.intro)))
       refine qac 200 200 (fun n:Nat=>n≤x.length∧ ∀(m:Nat) (y:Int),m < n→x[m]? =some y→0≤y∧y≤3)
        (fun n=>⟨167, [(1, .ptr 0 0 0 0),(8,sci .i64 k),(9,sci .i64 n)], [],1, [(0, .arr 6 0 [[sci .i64 node,sci .i64 state,sci .i64 steps,lI sent,lMs inn,lLs out]])]⟩) (fun n=>x.length - n) (0) [] ?_ ?_ ?_
       ·simp
       ·constructor<;>(try simp (maxSteps:=2000000) (disch:=omega) only [go_sem,simprocAttr,zD,zE,Int.natCast_zero,List.take_of_length_le,List.append_assoc])
       ·rintro n hn
        obtain⟨hn,hinvn⟩:=hn
        try refine zW ?_
        by_cases ln:n < x.length
        ·have sn2:=qa0 ln hinvn
         have bd2: ¬(0≤x[n]∧x[n]≤3)→tB (qaA ⟨node,state,steps,sent,inn,out⟩)=false:=fun q=>bd fun h=>q (h.2 n _ ln (List.getElem?_eq_getElem ln))
         generalize hy:x[n]=y at *
         by_cases g2:y < 0
         ·have e2:=bd2 fun q=>by have:=q.1;omega
          (try simp (maxSteps:=2000000) (disch:=omega) only [go_sem,simprocAttr,zD,zE,eLs,hx,eI,hy,g2,e2])
         by_cases g3:3 < y
         ·have e2:=bd2 fun q=>by have:=q.2;omega
          (try simp (maxSteps:=2000000) (disch:=omega) only [go_sem,simprocAttr,zD,zE,eLs,hx,eI,hy,g2,g3,e2])
         (try simp (maxSteps:=2000000) (disch:=omega) only [go_sem,simprocAttr,zD,zE,eLs,hx,eI,hy,g2,g3])
         refine⟨n+1, [],⟨ln,sn2 ⟨by omega,by omega⟩⟩,by omega,?_⟩
         constructor<;>((try refine zO ?_);(try with_reducible exact True.intro))
        ·obtain rfl:n=x.length:=by omega
         (try simp (maxSteps:=2000000) (disch:=omega) only [go_sem,simprocAttr,zD,zE,eLs,hx])
         refine⟨k+1, [],⟨lk,sn ⟨by omega,hinvn⟩⟩,by omega,?_⟩
         constructor<;>((try refine zO ?_);(try with_reducible exact True.intro))
      ·obtain rfl:k=out.length:=by omega
       have e:tB (qaA ⟨node,state,steps,sent,inn,out⟩)=true:=qal ⟨⟨by simp only;omega,by simp only;omega⟩,⟨by simp only;omega,by simp only;omega⟩,by simp only;omega,by simp only;omega,by simp only;omega,by simp only;omega,by simp only;omega,hinvi,hinvj,hinvk⟩
       (try simp (maxSteps:=2000000) (disch:=omega) only [go_sem,simprocAttr,zD,zE,e])
end Go.Proofs.NO
/- The document on graphs: links. -/
namespace Go.Proofs.NO
open Go Go.Idl Go.Proofs Go.GP Go.Proofs.Tryz
set_option maxHeartbeats 20000000
set_option maxRecDepth 100000
theorem qb4 (N a b:Int) (ls:List (Int × Int)) (hl:ls.length≤1000000):Pure prog 103 [eG N ls,sci .i64 a,sci .i64 b] (sci .i64 (qaF a b 0 ls)):=by
 refine pcall0 200 (fn:=f103) func103 rfl (by simp [ntmps103]) zB zB fun hs=>?_
 try refine zW ?_
 refine qan 200 200 (fun i:Nat=>i≤ls.length∧qaF a b i (ls.drop i)=qaF a b 0 ls)
  (fun i=>⟨34, [(1,sci .i64 a),(2,sci .i64 b),(3, .ptr 0 0 0 0),(7,sci .i64 i)], [],1, [(0, .arr 2 0 [[sci .i64 N,lII ls]])]⟩) (fun i=>ls.length - i) 0 ?_ ?_ ?_
 ·simp
 ·constructor<;>(try simp (disch:=omega) only [go_sem,simprocAttr,zD,zE,Int.natCast_zero])
 ·rintro i ⟨h1,h2⟩
  try refine zW ?_
  by_cases hi:i < ls.length
  ·rw [qba hi] at h2
   (try simp (disch:=omega) only [go_sem,simprocAttr,zD,zE,eII])
   cases ha:ls[i].1==a
   ·have hn: ¬(ls[i].1=a∧ls[i].2=b):=fun h=>by simp [h.1] at ha
    try refine zO ?_
    refine⟨i+1,⟨hi,by rw [←h2];simp [qaF,hn]⟩,by omega,?_⟩
    constructor<;>((try refine zO ?_);(try with_reducible exact True.intro))
   ·(try simp (disch:=omega) only [go_sem,simprocAttr,zD,zE,eII])
    cases hb:ls[i].2==b
    ·have hn: ¬(ls[i].1=a∧ls[i].2=b):=fun h=>by simp [h.2] at hb
     try refine zO ?_
     refine⟨i+1,⟨hi,by rw [←h2];simp [qaF,hn]⟩,by omega,?_⟩
     constructor<;>((try refine zO ?_);(try with_reducible exact True.intro))
    ·have hn:ls[i].1=a∧ls[i].2=b:=⟨by simpa using ha,by simpa using hb⟩
     rw [qaF,if_pos hn] at h2
     (try simp (disch:=omega) only [go_sem,simprocAttr,zD,zE,←h2])
  ·obtain rfl:i=ls.length:=by omega
   rw [List.drop_length] at h2
   (try simp (disch:=omega) only [go_sem,simprocAttr,zD,zE,←h2,qaF])
theorem qok (N n:Int) (ls:List (Int × Int)) (hl:ls.length≤1000000):Pure prog 38 [eG N ls,sci .i64 n] (lI (outs n 0 ls)):=by
 refine pcall0 200 (fn:=f38) func38 rfl (by simp [ntmps38]) zB zB fun hs=>?_
 try refine zW ?_
 refine qbe 5 1 trivial rfl (.inl rfl) ?_
 refine qan 200 200 (fun i:Nat × Nat × List Int=>i.1≤ls.length∧i.2.2.length≤i.1∧i.2.2++outs n i.1 (ls.drop i.1)=outs n 0 ls)
  (fun i=>⟨28, [(1,sci .i64 n),(2, .ptr 0 0 0 0),(5, .ref 1 i.2.1 0 i.2.2.length),(6,sci .i64 i.1)], [],2,
   [(1, .arr 1 i.2.1 (ir eI i.2.2)),(0, .arr 2 0 [[sci .i64 N,lII ls]])]⟩) (fun i=>ls.length - i.1) (0,0, []) ?_ ?_ ?_
 ·simp
 ·constructor<;>(try simp (disch:=omega) only [go_sem,simprocAttr,zD,zE,Int.natCast_zero])
 ·rintro⟨i,g,acc⟩ ⟨h1,h2,h3⟩
  simp only at h1 h2 h3
  try refine zW ?_
  by_cases hi:i < ls.length
  ·rw [qba hi] at h3
   (try simp (disch:=omega) only [go_sem,simprocAttr,zD,zE,eII])
   cases hc:ls[i].1==n
   ·have hc: ¬ls[i].1=n:=by simpa using hc
    try refine zO ?_
    refine⟨(i+1,g,acc),⟨hi,by simp only;omega,by simpa [outs,hc] using h3⟩,by simp only;omega,?_⟩
    constructor<;>((try refine zO ?_);(try with_reducible exact True.intro))
   ·have hc:ls[i].1=n:=by simpa using hc
    try refine zO ?_
    refine⟨(i+1,g+1,acc++ [(i:Int)]),⟨hi,by simp;omega,by simpa [outs,hc] using h3⟩,by simp only;omega,?_⟩
    constructor<;>((try refine zO ?_);(try with_reducible exact True.intro))
  ·obtain rfl:i=ls.length:=by omega
   rw [List.drop_length] at h3
   (try simp (disch:=omega) only [go_sem,simprocAttr,zD,zE,←h3,outs])
theorem qpb (N n:Int) (ls:List (Int × Int)) (hl:ls.length≤1000000):Pure prog 40 [eG N ls,sci .i64 n] (lI (ins n 0 ls)):=by
 refine pcall0 200 (fn:=f40) func40 rfl (by simp [ntmps40]) zB zB fun hs=>?_
 try refine zW ?_
 refine qbe 5 1 trivial rfl (.inl rfl) ?_
 refine qan 200 200 (fun i:Nat × Nat × List Int=>i.1≤ls.length∧i.2.2.length≤i.1∧i.2.2++ins n i.1 (ls.drop i.1)=ins n 0 ls)
  (fun i=>⟨28, [(1,sci .i64 n),(2, .ptr 0 0 0 0),(5, .ref 1 i.2.1 0 i.2.2.length),(6,sci .i64 i.1)], [],2,
   [(1, .arr 1 i.2.1 (ir eI i.2.2)),(0, .arr 2 0 [[sci .i64 N,lII ls]])]⟩) (fun i=>ls.length - i.1) (0,0, []) ?_ ?_ ?_
 ·simp
 ·constructor<;>(try simp (disch:=omega) only [go_sem,simprocAttr,zD,zE,Int.natCast_zero])
 ·rintro⟨i,g,acc⟩ ⟨h1,h2,h3⟩
  simp only at h1 h2 h3
  try refine zW ?_
  by_cases hi:i < ls.length
  ·rw [qba hi] at h3
   (try simp (disch:=omega) only [go_sem,simprocAttr,zD,zE,eII])
   cases hc:ls[i].2==n
   ·have hc: ¬ls[i].2=n:=by simpa using hc
    try refine zO ?_
    refine⟨(i+1,g,acc),⟨hi,by simp only;omega,by simpa [ins,hc] using h3⟩,by simp only;omega,?_⟩
    constructor<;>((try refine zO ?_);(try with_reducible exact True.intro))
   ·have hc:ls[i].2=n:=by simpa using hc
    try refine zO ?_
    refine⟨(i+1,g+1,acc++ [(i:Int)]),⟨hi,by simp;omega,by simpa [ins,hc] using h3⟩,by simp only;omega,?_⟩
    constructor<;>((try refine zO ?_);(try with_reducible exact True.intro))
  ·obtain rfl:i=ls.length:=by omega
   rw [List.drop_length] at h3
   (try simp (disch:=omega) only [go_sem,simprocAttr,zD,zE,←h3,ins])
theorem qlr {N:Int} {ls:List (Int × Int)} {i:Nat} {x:Int × Int} (h:qbx N ls i x=true):(0≤x.1∧x.1 < N)∧0≤x.2∧x.2 < N:=by
 simp only [qbx,Bool.and_eq_true,Bool.not_eq_true',decide_eq_false_iff_not] at h
 omega
theorem qj0 {N:Nat} {ls:List (Int × Int)} (h:qbS N ls 0 ls=true):InR N ls:=by
 intro x hx
 obtain⟨j,hj,rfl⟩:=List.getElem_of_mem hx
 have:=qel.1 h j _ (List.getElem?_eq_getElem hj)
 exact qlr this
theorem qmS (N n:Nat) (ls:List (Int × Int)) (hr:InR N ls) (hl:ls.length≤1000000) (hN:N≤1000000) (hn:n < N):Pure prog 166 [eG N ls,sci .i64 n] (lI (qbg N ls n)):=by
 have hn0: ¬((n:Int) < 0):=by omega
 refine pcall0 200 (fn:=f166) func166 rfl (by simp [ntmps166]) zB zB fun hs=>?_
 (try simp (disch:=omega) only [go_sem,simprocAttr,zD,zE,hn0])
 refine qbe 5 1 trivial rfl (.inl rfl) ?_
 refine qan 200 200 (fun i:Nat × Nat=>i.1≤N)
  (fun i=>⟨77, [(1,sci .i64 n),(2, .ptr 0 0 0 0),(5, .ref 1 i.2 0 i.1),(6,sci .i64 i.1)], [],2,
   [(1, .arr 1 i.2 (ir eI (List.replicate i.1 (-1)))),(0, .arr 2 0 [[sci .i64 N,lII ls]])]⟩) (fun i=>N - i.1) (0,0) ?_ ?_ ?_
 ·simp
 ·constructor<;>(try simp (disch:=omega) only [go_sem,simprocAttr,zD,zE,Int.natCast_zero])
 ·rintro⟨i,g⟩ h1
  simp only at h1
  try refine zW ?_
  by_cases hi:i < N
  ·try refine zO ?_
   have e:List.take i (List.replicate i (-1:Int))++ [-1]= -1::List.replicate i (-1):=by
    rw [List.take_of_length_le (by simp),←List.replicate_succ',List.replicate_succ]
   refine⟨(i+1,g+1),hi,by simp only;omega,?_⟩
   constructor<;>(try simp (disch:=omega) only [go_sem,simprocAttr,zD,zE,e])
  ·obtain rfl:i=N:=by omega
   try refine zO ?_
   have e0:(ir eI (List.replicate i (-1)))[n]? =some [.p (.sc (.int .i64 (-1)))]:=by
    rw [qap (by simpa using hn)];simp [eI]
   (try simp (disch:=omega) only [go_sem,simprocAttr,zD,zE,e0])
   refine qan 200 200 (fun k:Nat × List Int=>k.1≤i∧k.2.length=i∧qce ls (i - k.1) k.1 k.2=qbg i ls n)
    (fun k=>⟨77, [(2, .ptr 0 0 0 0),(5, .ref 1 g 0 i),(7,sci .i64 k.1)], [],2,
     [(1, .arr 1 g (ir eI k.2)),(0, .arr 2 0 [[sci .i64 i,lII ls]])]⟩) (fun k=>i - k.1) (0,(List.replicate i (-1)).set n 0) ?_ ?_ ?_
   ·simp [qbg]
   ·constructor<;>(try simp (disch:=omega) only [go_sem,simprocAttr,zD,zE,Int.natCast_zero])
   ·rintro⟨k,out⟩ ⟨h2,h3,h4⟩
    simp only at h2 h3 h4
    try refine zW ?_
    by_cases hk:k < i
    ·try refine zO ?_
     rw [show i - k=(i - (k+1))+1 by omega,qce] at h4
     refine qan 200 200 (fun j:Nat × List Int=>j.1≤ls.length∧j.2.length=i∧(ls.drop j.1).foldl (relax k) j.2=ls.foldl (relax k) out)
      (fun j=>⟨77, [(2, .ptr 0 0 0 0),(5, .ref 1 g 0 i),(7,sci .i64 k),(8,sci .i64 j.1)], [],2,
       [(1, .arr 1 g (ir eI j.2)),(0, .arr 2 0 [[sci .i64 i,lII ls]])]⟩) (fun j=>ls.length - j.1) (0,out) ?_ ?_ ?_
     ·simp [h3]
     ·constructor<;>(try simp (disch:=omega) only [go_sem,simprocAttr,zD,zE,Int.natCast_zero])
     ·rintro⟨j,o⟩ ⟨h5,h6,h7⟩
      simp only at h5 h6 h7
      try refine zW ?_
      by_cases hj:j < ls.length
      ·rw [qba hj,List.foldl_cons] at h7
       obtain⟨⟨a0,a1⟩,b0,b1⟩:=hr ls[j] (List.getElem_mem hj)
       generalize hx:ls[j]=x at *
       obtain⟨xa,xb⟩:=x
       simp only at a0 a1 b0 b1
       obtain⟨a,rfl⟩:=Int.eq_ofNat_of_zero_le a0
       obtain⟨b,rfl⟩:=Int.eq_ofNat_of_zero_le b0
       have ha:a < o.length:=by omega
       have hb:b < o.length:=by omega
       try refine zO ?_
       (refine zM [2,5,7,8] ?_;refine zI [none,none,none,none,none,none,none,none,none,none,none,none,none,none] ?_)
       (try simp (disch:=omega) only [go_sem,simprocAttr,zD,zE,hx,eII])
       (try simp (disch:=omega) only [go_sem,simprocAttr,zD,zE,eI])
       have ga:o.getD a 0=o[a]:=by simp [List.getD,ha]
       have gb:o.getD b 0=o[b]:=by simp [List.getD,hb]
       simp only [relax,Int.toNat_natCast,ga,gb] at h7
       cases hc:o[a]==(k:Int)
       ·have hc: ¬o[a]=(k:Int):=by simpa using hc
        rw [if_neg (fun h=>hc h.1)] at h7
        try refine zO ?_
        refine⟨(j+1,o),⟨hj,h6,h7⟩,by simp only;omega,?_⟩
        constructor<;>((try refine zO ?_);(try with_reducible exact True.intro))
       ·have hc:o[a]=(k:Int):=by simpa using hc
        (try simp (disch:=omega) only [go_sem,simprocAttr,zD,zE,eI])
        by_cases hd:o[b] < 0
        ·rw [if_pos ⟨hc,hd⟩] at h7
         (try simp (disch:=omega) only [go_sem,simprocAttr,zD,zE,eI])
         refine⟨(j+1,o.set b (k+1)),⟨hj,by simpa using h6,h7⟩,by simp only;omega,?_⟩
         constructor<;>(try simp (disch:=omega) only [go_sem,simprocAttr,zD,zE,eI])
        ·rw [if_neg (fun h=>hd h.2)] at h7
         try refine zO ?_
         refine⟨(j+1,o),⟨hj,h6,h7⟩,by simp only;omega,?_⟩
         constructor<;>((try refine zO ?_);(try with_reducible exact True.intro))
      ·obtain rfl:j=ls.length:=by omega
       rw [List.drop_length,List.foldl_nil] at h7
       try refine zO ?_
       refine⟨(k+1,o),⟨hk,h6,by rw [h7];exact h4⟩,by simp only;omega,?_⟩
       constructor<;>((try refine zO ?_);(try with_reducible exact True.intro))
    ·obtain rfl:k=i:=by omega
     rw [Nat.sub_self,qce] at h4
     subst h4
     have:=qcf (N:=k) (n:=n) (ls:=ls)
     try refine zO ?_
     have e:(qbg k ls n).take k=qbg k ls n:=List.take_of_length_le (by omega)
     (try simp (disch:=omega) only [go_sem,simprocAttr,zD,zE,e])
theorem qkM (N:Int) (ls:List (Int × Int)):Pure prog 78 [eG N ls] (scb (qby N ls)):=by
 refine pcall0 200 (fn:=f78) func78 rfl (by simp [ntmps78]) zB zB fun hs=>?_
 try refine zW ?_
 by_cases hN1:N < 1
 ·have e:qby N ls=false:=by simp [qby];omega
  (try simp (disch:=omega) only [go_sem,simprocAttr,zD,zE,e])
 by_cases hN6:N > 6
 ·have e:qby N ls=false:=by simp [qby];omega
  have hN6':(6:Int) < N:=hN6
  (try simp (disch:=omega) only [go_sem,simprocAttr,zD,zE,e])
 by_cases hL:ls.length > 30
 ·have e:qby N ls=false:=by simp [qby];omega
  have hL':(30:Int) < ls.length:=by omega
  have hN6': ¬(6:Int) < N:=by omega
  (try simp (disch:=omega) only [go_sem,simprocAttr,zD,zE,e])
 have hN6': ¬(6:Int) < N:=by omega
 have hL': ¬(30:Int) < ls.length:=by omega
 obtain⟨N,rfl⟩:=Int.eq_ofNat_of_zero_le (show 0≤N by omega)
 try refine zO ?_
 refine qan 200 200 (fun i:Nat=>i≤ls.length∧qbS N ls i (ls.drop i)=qbS N ls 0 ls)
  (fun i=>⟨100, [(1, .ptr 0 0 0 0),(3,sci .i64 i)], [],1, [(0, .arr 2 0 [[sci .i64 N,lII ls]])]⟩) (fun i=>ls.length - i) 0 ?_ ?_ ?_
 ·simp
 ·constructor<;>(try simp (disch:=omega) only [go_sem,simprocAttr,zD,zE,Int.natCast_zero])
 ·rintro i ⟨h1,h2⟩
  try refine zW ?_
  by_cases hi:i < ls.length
  ·rw [qba hi,qbS] at h2
   have fail:qbx N ls i ls[i]=false→qby N ls=false:=by
    intro h
    rw [h,Bool.false_and] at h2
    simp [qby,←h2]
   generalize hx:ls[i]=x at *
   obtain⟨a,b⟩:=x
   try refine zO ?_
   (refine zM [1,3] ?_;refine zI [none,none,none,none,none,none,none,none,none,none,none,none,none,none] ?_)
   (try simp (disch:=omega) only [go_sem,simprocAttr,zD,zE,hx,eII])
   (try simp (disch:=omega) only [go_sem,simprocAttr,zD,zE,eII])
   by_cases c1:a < 0
   ·(try simp (disch:=omega) only [go_sem,simprocAttr,zD,zE,fail (by simp [qbx,c1])])
   by_cases c2:(N:Int)≤a
   ·(try simp (disch:=omega) only [go_sem,simprocAttr,zD,zE,fail (by simp [qbx,c2])])
   try refine zO ?_
   by_cases c3:b < 0
   ·(try simp (disch:=omega) only [go_sem,simprocAttr,zD,zE,fail (by simp [qbx,c3])])
   try refine zO ?_
   by_cases c4:(N:Int)≤b
   ·(try simp (disch:=omega) only [go_sem,simprocAttr,zD,zE,fail (by simp [qbx,c4])])
   try refine zO ?_
   cases c5:a==b
   rotate_left
   ·(try simp (disch:=omega) only [go_sem,simprocAttr,zD,zE,fail (by simp [qbx,c5])])
   try refine zO ?_
   (refine zG ?_;refine callA_of (qb4 _ _ _ _ (by omega)) zB ?_)
   try refine zO ?_
   cases c6:qaF a b 0 ls != (i:Int)
   rotate_left
   ·(try simp (disch:=omega) only [go_sem,simprocAttr,zD,zE,fail (by simp [qbx,c6])])
   try refine zO ?_
   (refine zG ?_;refine callA_of (qb4 _ _ _ _ (by omega)) zB ?_)
   try refine zO ?_
   by_cases c7:qaF b a 0 ls < 0
   ·(try simp (disch:=omega) only [go_sem,simprocAttr,zD,zE,fail (by simp [qbx,c7])])
   have ok:qbx N ls i (a,b)=true:=by simp [qbx,c1,c2,c3,c4,c5,c6,c7]
   rw [ok,Bool.true_and] at h2
   try refine zO ?_
   refine⟨i+1,⟨hi,h2⟩,by omega,?_⟩
   constructor<;>((try refine zO ?_);(try with_reducible exact True.intro))
  ·obtain rfl:i=ls.length:=by omega
   rw [List.drop_length] at h2
   have hok:qbS N ls 0 ls=true:=h2.symm
   have hr:=qj0 hok
   have hb:qby N ls=(List.range N).all fun f=>(qbg N ls f).all fun d=>decide (0≤d):=by
    have e1:decide (1≤(N:Int))=true:=by simp;omega
    have e2:decide ((N:Int)≤6)=true:=by simp;omega
    have e3:decide (ls.length≤30)=true:=by simp;omega
    rw [qby,e1,e2,e3,hok]
    simp
   try refine zO ?_
   refine qan 200 200 (fun f:Nat=>f≤N∧ ∀g,g < f→ ∀d∈qbg N ls g,0≤d)
    (fun f=>⟨100, [(1, .ptr 0 0 0 0),(6,sci .i64 f)], [],1, [(0, .arr 2 0 [[sci .i64 N,lII ls]])]⟩) (fun f=>N - f) 0 ?_ ?_ ?_
   ·simp
   ·constructor<;>(try simp (disch:=omega) only [go_sem,simprocAttr,zD,zE,Int.natCast_zero])
   ·rintro f ⟨g1,g2⟩
    try refine zW ?_
    by_cases hf:f < N
    ·try refine zO ?_
     (refine zG ?_;refine callA_of (qmS _ _ _ hr (by omega) (by omega) hf) zB ?_)
     try refine zO ?_
     refine qan 200 200 (fun j:Nat=>j≤N∧ ∀k (hk:k < (qbg N ls f).length),k < j→0≤(qbg N ls f)[k])
      (fun j=>⟨100, [(1, .ptr 0 0 0 0),(6,sci .i64 f),(7,lI (qbg N ls f)),(8,sci .i64 j)], [],1, [(0, .arr 2 0 [[sci .i64 N,lII ls]])]⟩) (fun j=>N - j) 0 ?_ ?_ ?_
     ·simp
     ·constructor<;>(try simp (disch:=omega) only [go_sem,simprocAttr,zD,zE,Int.natCast_zero])
     ·rintro j ⟨k1,k2⟩
      have hlen:=qcf (N:=N) (n:=f) (ls:=ls)
      try refine zW ?_
      by_cases hj:j < N
      ·have hjl:j < (qbg N ls f).length:=by omega
       (try simp (disch:=omega) only [go_sem,simprocAttr,zD,zE,eI])
       by_cases hd:(qbg N ls f)[j] < 0
       ·have e:qby N ls=false:=by
         rw [hb,List.all_eq_false]
         refine⟨f,by simpa using hf,?_⟩
         rw [Bool.not_eq_true,List.all_eq_false]
         exact⟨_,List.getElem_mem hjl,by simp;omega⟩
        (try simp (disch:=omega) only [go_sem,simprocAttr,zD,zE,e])
       ·try refine zO ?_
        refine⟨j+1,⟨hj,fun k hk hlt=>?_⟩,by omega,?_⟩
        ·by_cases e:k=j
         ·subst e;omega
         ·exact k2 k hk (by omega)
        ·constructor<;>((try refine zO ?_);(try with_reducible exact True.intro))
      ·obtain rfl:j=N:=by omega
       have: ¬(j < (qbg j ls f).length):=by omega
       (try simp (disch:=omega) only [go_sem,simprocAttr,zD,zE,this])
       refine⟨f+1,⟨hf,fun g hg d hd=>?_⟩,by omega,?_⟩
       ·by_cases e:g=f
        ·subst e
         obtain⟨k,hk,rfl⟩:=List.getElem_of_mem hd
         exact k2 k hk (by omega)
        ·exact g2 g (by omega) d hd
       ·constructor<;>((try refine zO ?_);(try with_reducible exact True.intro))
    ·obtain rfl:f=N:=by omega
     have e:qby f ls=true:=by
      rw [hb,List.all_eq_true]
      intro g hg
      rw [List.all_eq_true]
      intro d hd
      simpa using g2 g (by simpa using hg) d hd
     (try simp (disch:=omega) only [go_sem,simprocAttr,zD,zE,e])
end Go.Proofs.NO
