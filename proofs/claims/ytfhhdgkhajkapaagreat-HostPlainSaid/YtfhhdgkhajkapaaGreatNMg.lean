/- Facts that the proofs of this claim lean on. -/
import Derived.Test.YtfhhdgkhajkapaaGreatNMe
set_option linter.unusedSimpArgs false
set_option linter.unusedVariables false
/- The document's answers of layer 11, and of configurations. -/
namespace Go.Proofs.NO
open Go Go.Idl Go.Proofs Go.GP
set_option maxHeartbeats 20000000
set_option maxRecDepth 100000
theorem qjA (l:List (Int × Int)) (q:Int):Pure Tryz.prog 28 [lII l,sci .i64 q] (sci .i64 (idxM q 0 l)):=by
 refine qah 200 (fn:=Tryz.f28) Tryz.func28 rfl (by simp [Tryz.ntmps28]) zB zB fun hs=>?_
 simp only [go_sem,simprocAttr,maxLen] at hs
 try refine zO ?_
 refine qal 200 200 (fun i:Nat=>i≤l.length∧idxM q i (l.drop i)=idxM q 0 l)
  (fun i=>⟨20, [(0,lII l),(1,sci .i64 q),(5,sci .i64 i)], [],0, []⟩) (fun i=>l.length - i) (0) [] ?_ ?_ ?_
 ·simp
 ·constructor<;>(try simp (disch:=omega) only [go_sem,simprocAttr,zD,zE,Int.natCast_zero,List.take_of_length_le,List.append_assoc])
 ·rintro i hi
  obtain⟨hi,hinvi⟩:=hi
  try refine zW ?_
  by_cases li:i < l.length
  ·rw [qbI li,idxM] at hinvi
   by_cases e:l[i].1=q
   ·rw [if_pos e] at hinvi
    have e2:(l[i].1==q)=true:=beq_iff_eq.2 e
    (try simp (disch:=omega) only [go_sem,simprocAttr,zD,zE,eII,e2,←hinvi])
   ·rw [if_neg e] at hinvi
    have e2:(l[i].1==q)=false:=beq_eq_false_iff_ne.2 e
    (try simp (disch:=omega) only [go_sem,simprocAttr,zD,zE,eII,e2])
    refine⟨i+1, [],⟨by first | assumption | omega,hinvi⟩,?_,?_⟩
    ·(try simp only []);omega
    ·constructor<;>(try simp (disch:=omega) only [go_sem,simprocAttr,zD,zE,List.append_assoc])
  ·obtain rfl:i=l.length:=by omega
   rw [List.drop_length] at hinvi
   (try simp (disch:=omega) only [go_sem,simprocAttr,zD,zE,←hinvi,idxM])
theorem qlT (S:List Int) (L:List (List (Int × Int))) (E:List Int):Pure Tryz.prog 22 [lCf S L E] (lCf S L E):=by
 refine qah 200 (fn:=Tryz.f22) Tryz.func22 rfl (by simp [Tryz.ntmps22]) zB zB fun hs=>?_
 ((try refine zW ?_);(try with_reducible exact True.intro))
theorem qjB (N:Int) (ls:List (Int × Int)) (T:List Nd) (ff:Bool) (S:List Int) (L:List (List (Int × Int))) (E:List Int) (hT:qd3 T) (hls:ls.length≤1000000) (hLL: ∀l∈L,l.length≤1000000):
  Pure Tryz.prog 21 [.agg [sci .i64 N,lII ls, .p (.imm 2 (pr eNd T)),scb ff],lCf S L E] (scb (tB (qdc N ls T S L E))):=by
 have bad: ∀ {q:Prop},(qdc N ls T S L E→q)→ ¬q→tB (qdc N ls T S L E)=false:=fun f g=>qaU fun h=>g (f h)
 refine qah 200 (fn:=Tryz.f21) Tryz.func21 rfl (by simp [Tryz.ntmps21]) zB zB fun hs=>?_
 simp (maxSteps:=2000000) only [go_sem,simprocAttr,maxLen] at hs
 try refine zW ?_
 (refine qaf 200 ?_;refine zW ?_;refine callA_of (qeS N ls T hT) zB ?_;((try refine zW ?_);(try with_reducible exact True.intro)))
 by_cases hR:TabP N ls T
 rotate_left
 ·have eR:=qaU hR
  have e:=bad (fun q=>q.1) hR
  (try simp (maxSteps:=2000000) (disch:=omega) only [go_sem,simprocAttr,zD,zE,eR,e])
 have eR:=qa6 hR
 by_cases h1:(S.length:Int)=N
 rotate_left
 ·have e:=bad (fun q=>q.2.1) h1
  (try simp (maxSteps:=2000000) (disch:=omega) only [go_sem,simprocAttr,zD,zE,eR,h1,e])
 by_cases h2:L.length=ls.length
 rotate_left
 ·have e:=bad (fun q=>q.2.2.1) h2
  have h2': ¬(L.length:Int)=ls.length:=by omega
  (try simp (maxSteps:=2000000) (disch:=omega) only [go_sem,simprocAttr,zD,zE,eR,h1,h2',e])
 by_cases h3:E.length=ls.length
 rotate_left
 ·have e:=bad (fun q=>q.2.2.2.1) h3
  have h3': ¬(E.length:Int)=ls.length:=by omega
  (try simp (maxSteps:=2000000) (disch:=omega) only [go_sem,simprocAttr,zD,zE,eR,h1,h2,h3',e])
 (try simp (maxSteps:=2000000) (disch:=omega) only [go_sem,simprocAttr,zD,zE,eR,h1,h2,h3])
 have hTl:(T.length:Int)=N:=hR.2.1
 have hN6:N≤6:=hR.1.2.1
 (refine walk_trim [2,3,5] trivial zL ?_;((try refine zW ?_);(try with_reducible exact True.intro)))
 refine qal 200 200 (fun i:Nat=>i≤S.length∧ ∀(k:Nat) (s:Int),k < i→S[k]? =some s→0≤s∧ ∀x,T[k]? =some x→s < x.states.length)
  (fun i=>⟨138, [(2, .ptr 0 0 0 0),(3, .ptr 1 0 0 0),(5,sci .i64 i)], [],2, [(1, .arr 3 0 [[lI S,lMs L,lI E]]),(0, .arr 4 0 [[sci .i64 N,lII ls, .p (.imm 2 (pr eNd T)),scb ff]])]⟩) (fun i=>S.length - i) (0) [] ?_ ?_ ?_
 ·simp
 ·constructor<;>(try simp (maxSteps:=2000000) (disch:=omega) only [go_sem,simprocAttr,zD,zE,Int.natCast_zero,List.take_of_length_le,List.append_assoc,h1])
 ·rintro i hi
  obtain⟨hi,hinvi⟩:=hi
  try refine zW ?_
  by_cases li:i < S.length
  ·have sn:=qbb (P:=fun k (s:Int)=>0≤s∧ ∀x,T[k]? =some x→s < x.states.length) li hinvi
   have bd: ¬(0≤S[i]∧ ∀x,T[i]? =some x→S[i] < x.states.length)→tB (qdc N ls T S L E)=false:=fun q=>qaU fun h=>q (h.2.2.2.2.1 i _ (List.getElem?_eq_getElem li))
   have lT:i < T.length:=by omega
   have li':(i:Int) < N:=by omega
   have hq:T[i]? =some T[i]:=List.getElem?_eq_getElem lT
   generalize hx:T[i]=x at *
   generalize hs2:S[i]=s at *
   obtain⟨st,ss⟩:=x
   by_cases g1:s < 0
   ·have e:=bd fun q=>by omega
    (try simp (maxSteps:=2000000) (disch:=omega) only [go_sem,simprocAttr,zD,zE,eI,hs2,g1,e])
    (refine walk_trim [2,3,5] trivial zL ?_;refine zW ?_;refine irun_walk (id:=6) (n:=200) [none,none,none,none,none,none,none,none,none,none,none,none,none,none,none,none,none,none,none,none,none] qan (by kernel_rfl) ?_)
    (try simp (maxSteps:=2000000) (disch:=omega) only [go_sem,simprocAttr,zD,zE,eI,hs2,g1,e])
   by_cases g2:(ss.length:Int)≤s
   ·have e:=bd fun q=>by have:=q.2 _ hq;simp only at this;omega
    (try simp (maxSteps:=2000000) (disch:=omega) only [go_sem,simprocAttr,zD,zE,eI,hs2,g1,hx,eNd,g2,e])
    (refine walk_trim [2,3,5] trivial zL ?_;refine zW ?_;refine irun_walk (id:=6) (n:=200) [none,none,none,none,none,none,none,none,none,none,none,none,none,none,none,none,none,none,none,none,none] qan (by kernel_rfl) ?_)
    (try simp (maxSteps:=2000000) (disch:=omega) only [go_sem,simprocAttr,zD,zE,eI,hs2,g1,hx,eNd,g2,e])
   (try simp (maxSteps:=2000000) (disch:=omega) only [go_sem,simprocAttr,zD,zE,eI,hs2,g1,hx,eNd,g2])
   (refine walk_trim [2,3,5] trivial zL ?_;refine zW ?_;refine irun_walk (id:=6) (n:=200) [none,none,none,none,none,none,none,none,none,none,none,none,none,none,none,none,none,none,none,none,none] qan (by kernel_rfl) ?_)
   (try simp (maxSteps:=2000000) (disch:=omega) only [go_sem,simprocAttr,zD,zE,eI,hs2,g1,hx,eNd,g2])
   refine⟨i+1, [],⟨li,sn ⟨by omega,fun x hx'=>by rw [hq] at hx';cases hx';simp only;omega⟩⟩,by omega,?_⟩
   constructor<;>(try simp (maxSteps:=2000000) (disch:=omega) only [go_sem,simprocAttr,zD,zE,h1])
  ·obtain rfl:i=S.length:=by omega
   have hS:=all_end hinvi
   (try simp (maxSteps:=2000000) (disch:=omega) only [go_sem,simprocAttr,zD,zE,h1])
   (refine walk_trim [3,6] trivial zL ?_;((try refine zW ?_);(try with_reducible exact True.intro)))
   refine qal 200 200 (fun i:Nat=>i≤L.length∧ ∀(k:Nat) (l:List (Int × Int)),k < i→L[k]? =some l→ ∀e,E[k]? =some e→MayC l e)
    (fun i=>⟨138, [(3, .ptr 1 0 0 0),(6,sci .i64 i)], [],2, [(1, .arr 3 0 [[lI S,lMs L,lI E]])]⟩) (fun i=>L.length - i) (0) [] ?_ ?_ ?_
   ·simp
   ·constructor<;>(try simp (maxSteps:=2000000) (disch:=omega) only [go_sem,simprocAttr,zD,zE,Int.natCast_zero,List.take_of_length_le,List.append_assoc])
   ·rintro i hi
    obtain⟨hi,hinvi⟩:=hi
    try refine zW ?_
    by_cases li:i < L.length
    ·have sn:=qbb (P:=fun k (l:List (Int × Int))=> ∀e,E[k]? =some e→MayC l e) li hinvi
     have lE:i < E.length:=by omega
     have li':(i:Int) < ls.length:=by omega
     have hq:E[i]? =some E[i]:=List.getElem?_eq_getElem lE
     have bd: ¬MayC L[i] E[i]→tB (qdc N ls T S L E)=false:=fun q=>qaU fun h=>q (h.2.2.2.2.2 i _ (List.getElem?_eq_getElem li) _ hq)
     have hlj:=hLL _ (List.getElem_mem li)
     generalize hx:E[i]=n at *
     generalize hs2:L[i]=l at *
     by_cases g1:n < 0
     ·have e:=bd fun q=>by have:=q.2.1;omega
      (try simp (maxSteps:=2000000) (disch:=omega) only [go_sem,simprocAttr,zD,zE,eMs,hs2,eI,hx,g1,e])
     by_cases g2:500 < n
     ·have e:=bd fun q=>by have:=q.2.2;omega
      (try simp (maxSteps:=2000000) (disch:=omega) only [go_sem,simprocAttr,zD,zE,eMs,hs2,eI,hx,g1,g2,e])
     (try simp (maxSteps:=2000000) (disch:=omega) only [go_sem,simprocAttr,zD,zE,eMs,hs2,eI,hx,g1,g2])
     (refine walk_trim [3,6,7,8] trivial zL ?_;((try refine zW ?_);(try with_reducible exact True.intro)))
     refine qal 200 200 (fun z:Nat × Int=>z.1≤l.length∧(GP.MayP n z.2 (l.drop z.1)↔GP.MayP n 0 l))
      (fun z=>⟨138, [(3, .ptr 1 0 0 0),(6,sci .i64 i),(7,sci .i64 z.2),(8,sci .i64 z.1)], [],2, [(1, .arr 3 0 [[lI S,lMs L,lI E]])]⟩) (fun z=>l.length - z.1) (0,0) [] ?_ ?_ ?_
     ·simp
     ·constructor<;>(try simp (maxSteps:=2000000) (disch:=omega) only [go_sem,simprocAttr,zD,zE,Int.natCast_zero])
     ·rintro⟨j,last⟩ ⟨j1,j2⟩
      simp only at j1 j2
      (try simp (maxSteps:=2000000) (disch:=omega) only [go_sem,simprocAttr,zD,zE,eMs,hs2])
      by_cases lj:j < l.length
      ·rw [List.drop_eq_getElem_cons lj] at j2
       generalize hm:l[j]=m at *
       obtain⟨sq,lt⟩:=m
       have bd2: ¬(last < sq∧sq≤n∧0≤lt∧lt≤3)→tB (qdc N ls T S L E)=false:=fun q=>bd fun h=>q (j2.2 h.1).1
       (try simp (maxSteps:=2000000) (disch:=omega) only [go_sem,simprocAttr,zD,zE,eMs,hs2,eII,hm])
       (refine walk_trim [3,6,7,8,9] trivial zL ?_;refine zW ?_;refine irun_walk (id:=18) (n:=200) [none,none,none,none,none,none,none,none,none,none,none,none,none,none,none,none,none,none,none,none,none,none,none,none] qan (by kernel_rfl) ?_)
       by_cases q1:sq≤last
       ·have e:=bd2 fun q=>by omega
        (try simp (maxSteps:=2000000) (disch:=omega) only [go_sem,simprocAttr,zD,zE,q1,e])
       by_cases q2:n < sq
       ·have e:=bd2 fun q=>by omega
        (try simp (maxSteps:=2000000) (disch:=omega) only [go_sem,simprocAttr,zD,zE,eI,hx,q1,q2,e])
       by_cases q3:lt < 0
       ·have e:=bd2 fun q=>by omega
        (try simp (maxSteps:=2000000) (disch:=omega) only [go_sem,simprocAttr,zD,zE,eI,hx,q1,q2,q3,e])
       by_cases q4:3 < lt
       ·have e:=bd2 fun q=>by omega
        (try simp (maxSteps:=2000000) (disch:=omega) only [go_sem,simprocAttr,zD,zE,eI,hx,q1,q2,q3,q4,e])
       (try simp (maxSteps:=2000000) (disch:=omega) only [go_sem,simprocAttr,zD,zE,eI,hx,q1,q2,q3,q4])
       refine⟨(j+1,sq), [],⟨lj,⟨fun q=>j2.1 ⟨⟨by simp only;omega,by simp only;omega,by simp only;omega,by simp only;omega⟩,q⟩,fun q=>(j2.2 q).2⟩⟩,by simp only;omega,?_⟩
       constructor<;>((try refine zO ?_);(try with_reducible exact True.intro))
      ·obtain rfl:j=l.length:=by omega
       have hM:MayC l n:=⟨j2.1 (by rw [List.drop_length];trivial),by omega,by omega⟩
       try refine zO ?_
       refine⟨i+1, [],⟨li,sn fun e' he=>by rw [hq] at he;cases he;exact hM⟩,by omega,?_⟩
       constructor<;>((try refine zO ?_);(try with_reducible exact True.intro))
    ·obtain rfl:i=L.length:=by omega
     have hL:=all_end hinvi
     have e:tB (qdc N ls T S L E)=true:=qa6 ⟨hR,h1,h2,h3,hS,hL⟩
     (try simp (maxSteps:=2000000) (disch:=omega) only [go_sem,simprocAttr,zD,zE,e])
end Go.Proofs.NO
