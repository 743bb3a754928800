/- Facts that the proofs of this claim lean on. -/
import Derived.Test.YteebghpjgcacmaaGreatYQC
import Derived.Test.YteebghpjgcacmaaGreatYGb
import Derived.Test.YteebghpjgcacmaaGreatYH4
import Derived.Test.YteebghpjgcacmaaGreatYKa
set_option linter.unusedSimpArgs false
set_option linter.unusedVariables false
/- Whether there are all pieces. -/
namespace Go.Proofs.GY
open Go Go.Idl Go.Proofs Go.GP
set_option maxHeartbeats 20000000
set_option maxRecDepth 100000
theorem qpl (N n:Int) (ls:List (Int × Int)) (hl:ls.length≤1000000):Pure Tryz.prog 98 [eG N ls,sci .i64 n,sci .i64 1] (lI (ins n 0 ls)):=by
 refine qaf 200 (fn:=Tryz.f98) Tryz.func98 rfl (by simp [Tryz.ntmps98]) zB zB fun hs=>?_
 try refine zW ?_
 refine walk_own 7 1 trivial rfl (.inr rfl) ?_
 (refine walk_trim [1,2,7,11,12,13] trivial zL ?_;((try refine zW ?_);(try with_reducible exact True.intro)))
 refine qad 200 200 (fun i:Nat × Nat × List Int=>i.1≤ls.length∧i.2.2.length≤i.1∧i.2.2++ins n i.1 (ls.drop i.1)=ins n 0 ls)
  (fun i=>⟨29, [(1,sci .i64 n),(2,sci .i64 1),(7, .ref 1 i.2.1 0 i.2.2.length),(11,lII ls),(12,sci .i64 ls.length),(13,sci .i64 i.1)], [],2,
   [(1, .arr 1 i.2.1 (ir eI i.2.2))]⟩) (fun i=>ls.length - i.1) (0,0, []) [] ?_ ?_ ?_
 ·simp
 ·constructor<;>(try simp (disch:=omega) only [go_sem,simprocAttr,zD,zE,Int.natCast_zero])
 ·rintro⟨i,g,acc⟩ ⟨h1,h2,h3⟩
  simp only at h1 h2 h3
  try refine zW ?_
  by_cases hi:i < ls.length
  ·rw [qbl hi] at h3
   (try simp (disch:=omega) only [go_sem,simprocAttr,zD,zE,eII])
   by_cases hc:ls[i].2=n
   ·(try simp (disch:=omega) only [go_sem,simprocAttr,zD,zE,hc])
    refine⟨(i+1,g+1,acc++ [(i:Int)]), [],⟨hi,by simp;omega,by simpa [ins,hc] using h3⟩,by simp only;omega,?_⟩
    constructor<;>((try refine zO ?_);(try with_reducible exact True.intro))
   ·(try simp (disch:=omega) only [go_sem,simprocAttr,zD,zE,hc])
    refine⟨(i+1,g,acc), [],⟨hi,by simp only;omega,by simpa [ins,hc] using h3⟩,by simp only;omega,?_⟩
    constructor<;>((try refine zO ?_);(try with_reducible exact True.intro))
  ·obtain rfl:i=ls.length:=by omega
   rw [List.drop_length] at h3
   (try simp (disch:=omega) only [go_sem,simprocAttr,zD,zE,←h3,ins])
theorem qcX (N n:Int) (ls:List (Int × Int)) (hl:ls.length≤1000000):Pure Tryz.prog 54 [eG N ls,sci .i64 n] (lI (ins n 0 ls)):=by
 refine qaf 200 (fn:=Tryz.f54) Tryz.func54 rfl (by simp [Tryz.ntmps54]) zB zB fun hs=>?_
 try refine zW ?_
 (refine qac 200 ?_;refine zW ?_;refine callA_of (qpl _ _ _ hl) zB ?_;((try refine zW ?_);(try with_reducible exact True.intro)))
 ((try refine zW ?_);(try with_reducible exact True.intro))
def PcAt (ls:List (Int × Int)) (T:List Nd) (n:Nat) (p:Pc):Prop:=
 p.node=n∧qcp p∧(∀x,T[n]? =some x→p.state < x.states.length)∧p.sent.length=(outs n 0 ls).length∧p.inn.length=(ins n 0 ls).length
def qcJ (N:Int) (ls:List (Int × Int)) (T:List Nd) (l:List Pc):Prop:=TabP N ls T∧(l.length:Int)=N∧ ∀(n:Nat) (p:Pc),l[n]? =some p→PcAt ls T n p
theorem qhy (s:Sc) (l:List Pc) (hl:s.ls.length≤1000000) (hT:qcq s.T) (hg: ∀p∈l,gPc p):Pure Tryz.prog 14 [lApp s,lPs l] (scb (tB (qcJ s.N s.ls s.T l))):=by
 obtain⟨N,ls,T,ff,room,acts⟩:=s
 simp only at hl hT
 have bad: ∀ {q:Prop},(qcJ N ls T l→q)→ ¬q→tB (qcJ N ls T l)=false:=fun f g=>qah fun h=>g (f h)
 refine qaf 200 (fn:=Tryz.f14) Tryz.func14 rfl (by simp [Tryz.ntmps14]) zB zB fun hs=>?_
 try refine zW ?_
 (refine qac 200 ?_;refine zW ?_;refine callA_of (qfJ N ls T hT) zB ?_;((try refine zW ?_);(try with_reducible exact True.intro)))
 by_cases hR:TabP N ls T
 rotate_left
 ·have eR:=qah hR
  have e:=bad (fun q=>q.1) hR
  (try simp (maxSteps:=2000000) (disch:=omega) only [go_sem,simprocAttr,zD,zE,eR,e])
 have eR:=qam hR
 by_cases hN:(l.length:Int)=N
 rotate_left
 ·have e:=bad (fun q=>q.2.1) hN
  (try simp (maxSteps:=2000000) (disch:=omega) only [go_sem,simprocAttr,zD,zE,eR,hN,e])
 have hTl:(T.length:Int)=N:=hR.2.1
 have hN6:N≤6:=hR.1.2.1
 (try simp (maxSteps:=2000000) (disch:=omega) only [go_sem,simprocAttr,zD,zE,eR,hN])
 (refine walk_trim [2,21,22,23] trivial zL ?_;((try refine zW ?_);(try with_reducible exact True.intro)))
 refine qad 200 200 (fun i:Nat=>i≤l.length∧ ∀(k:Nat) (p:Pc),k < i→l[k]? =some p→PcAt ls T k p)
  (fun i=>⟨72, [(2, .ptr 0 0 0 0),(21,lPs l),(22,sci .i64 l.length),(23,sci .i64 i)], [],1, [(0, .arr 4 0 [[sci .i64 N,lII ls, .p (.imm 2 (pr eNd T)),scb ff]])]⟩) (fun i=>l.length - i) (0) [] ?_ ?_ ?_
 ·simp
 ·constructor<;>(try simp (maxSteps:=2000000) (disch:=omega) only [go_sem,simprocAttr,zD,zE,Int.natCast_zero,List.take_of_length_le,List.append_assoc,hN])
 ·rintro i hi
  obtain⟨hi,hinvi⟩:=hi
  try refine zW ?_
  by_cases li:i < l.length
  ·have sn:=qaC li hinvi
   have bd: ¬PcAt ls T i l[i]→tB (qcJ N ls T l)=false:=fun q=>qah fun h=>q (h.2.2 i _ (List.getElem?_eq_getElem li))
   have hp:=hg _ (List.getElem_mem li)
   have lT:i < T.length:=by omega
   have hq:T[i]? =some T[i]:=List.getElem?_eq_getElem lT
   generalize hl2:l[i]=p at *
   generalize hx:T[i]=x at *
   obtain⟨st,ss⟩:=x
   have hp0:=hp
   obtain⟨node,state,steps,sent,inn,out⟩:=p
   by_cases h1:node=(i:Int)
   rotate_left
   ·have e:=bd fun q=>h1 q.1
    (try simp (maxSteps:=2000000) (disch:=omega) only [go_sem,simprocAttr,zD,zE,ePc,hl2])
    (refine walk_trim [2,5,6,21,22,23] trivial zL ?_;refine zW ?_;refine irun_walk (id:=6) (n:=200) (none::none::none::none::none::none::some []::none::none::none::none::none::none::none::none::none::none::none::none::none::none::none::none::none::none::none::none::none::some [22,23,24]::none::none::none::none::none::none::none::none::none::none::some [33,34,35]::none::none::none:: []) qap (by kernel_rfl) ?_)
    (try simp (maxSteps:=2000000) (disch:=omega) only [go_sem,simprocAttr,zD,zE,h1,e])
   subst h1
   (try simp (maxSteps:=2000000) (disch:=omega) only [go_sem,simprocAttr,zD,zE,ePc,hl2])
   (refine walk_trim [2,5,6,21,22,23] trivial zL ?_;refine zW ?_;refine irun_walk (id:=6) (n:=200) (none::none::none::none::none::none::some []::none::none::none::none::none::none::none::none::none::none::none::none::none::none::none::none::none::none::none::none::none::some [22,23,24]::none::none::none::none::none::none::none::none::none::none::some [33,34,35]::none::none::none:: []) qap (by kernel_rfl) ?_)
   try refine zO ?_
   (refine at_dcall ?_;refine zW ?_;refine callA_of (ql1 ⟨i,state,steps,sent,inn,out⟩ hp0) zB ?_;((try refine zW ?_);(try with_reducible exact True.intro)))
   by_cases h2:qcp ⟨i,state,steps,sent,inn,out⟩
   rotate_left
   ·have e:=bd fun q=>h2 q.2.1
    have e2:=qah h2
    (try simp (maxSteps:=2000000) (disch:=omega) only [go_sem,simprocAttr,zD,zE,e2,e])
   have e2:=qam h2
   by_cases h3:state < (ss.length:Int)
   rotate_left
   ·have e:=bd fun q=>h3 (q.2.2.1 _ hq)
    (try simp (maxSteps:=2000000) (disch:=omega) only [go_sem,simprocAttr,zD,zE,e2,hx,eNd,e])
   (try simp (maxSteps:=2000000) (disch:=omega) only [go_sem,simprocAttr,zD,zE,e2,hx,eNd,h3])
   (refine at_dcall ?_;refine zW ?_;refine callA_of (qbZ N i ls hl) zB ?_;((try refine zW ?_);(try with_reducible exact True.intro)))
   by_cases h4:sent.length=(outs i 0 ls).length
   rotate_left
   ·have e:=bd fun q=>h4 q.2.2.2.1
    (try simp (maxSteps:=2000000) (disch:=omega) only [go_sem,simprocAttr,zD,zE,h4,e])
   (try simp (maxSteps:=2000000) (disch:=omega) only [go_sem,simprocAttr,zD,zE,h4])
   (refine at_dcall ?_;refine zW ?_;refine callA_of (qcX N i ls hl) zB ?_;((try refine zW ?_);(try with_reducible exact True.intro)))
   by_cases h5:inn.length=(ins i 0 ls).length
   rotate_left
   ·have e:=bd fun q=>h5 q.2.2.2.2
    (try simp (maxSteps:=2000000) (disch:=omega) only [go_sem,simprocAttr,zD,zE,h5,e])
   (try simp (maxSteps:=2000000) (disch:=omega) only [go_sem,simprocAttr,zD,zE,h5])
   refine⟨i+1, [],⟨li,sn ⟨rfl,h2,fun x hx'=>by rw [hq] at hx';cases hx';exact h3,h4,h5⟩⟩,by omega,?_⟩
   constructor<;>(try simp (maxSteps:=2000000) (disch:=omega) only [go_sem,simprocAttr,zD,zE,hN])
  ·obtain rfl:i=l.length:=by omega
   have e:tB (qcJ N ls T l)=true:=qam ⟨hR,hN,all_end hinvi⟩
   (try simp (maxSteps:=2000000) (disch:=omega) only [go_sem,simprocAttr,zD,zE,e])
end Go.Proofs.GY
