/- Whether a host may be. -/
import Derived.Test.YtnbhjoopcaaafaaGreatHP7
import Derived.Test.YtnbhjoopcaaafaaGreatHP4
import Derived.Test.YtnbhjoopcaaafaaGreatHGb
import Derived.Test.YtnbhjoopcaaafaaGreatHH4
import Derived.Test.YtnbhjoopcaaafaaGreatHKa
set_option linter.unusedSimpArgs false
set_option linter.unusedVariables false
namespace Go.Proofs.HO
open Go Go.Idl Go.Proofs Go.GP
set_option maxHeartbeats 20000000
set_option maxRecDepth 100000
theorem of1_spec (N n:Int) (ls:List (Int × Int)) (hl:ls.length≤1000000):Pure Tryz.prog 87 [eG N ls,sci .i64 n,sci .i64 1] (lI (ins n 0 ls)):=by
 refine pcall0 200 (fn:=Tryz.f87) Tryz.func87 rfl (by simp [Tryz.ntmps87]) zB zB fun hs=>?_
 ((try refine zW ?_);(try with_reducible exact True.intro))
 refine walk_own 7 1 trivial rfl (.inr rfl) ?_
 (refine walk_trim [1,2,7,11,12,13] trivial zL ?_;((try refine zW ?_);(try with_reducible exact True.intro)))
 refine walk_floop 200 200 (fun i:Nat × Nat × List Int=>i.1≤ls.length∧i.2.2.length≤i.1∧i.2.2++ins n i.1 (ls.drop i.1)=ins n 0 ls)
  (fun i=>⟨29, [(1,sci .i64 n),(2,sci .i64 1),(7, .ref 1 i.2.1 0 i.2.2.length),(11,lII ls),(12,sci .i64 ls.length),(13,sci .i64 i.1)], [],2,
   [(1, .arr 1 i.2.1 (ir eI i.2.2))]⟩) (fun i=>ls.length - i.1) (0,0, []) [] ?_ ?_ ?_
 ·simp
 ·constructor<;>(try simp (disch:=omega) only [go_sem,simprocAttr,zD,zE,Int.natCast_zero])
 ·rintro⟨i,g,acc⟩ ⟨h1,h2,h3⟩
  simp only at h1 h2 h3
  ((try refine zW ?_);(try with_reducible exact True.intro))
  by_cases hi:i < ls.length
  ·rw [drop_cons hi] at h3
   (try simp (disch:=omega) only [go_sem,simprocAttr,zD,zE,eII])
   by_cases hc:ls[i].2=n
   ·(try simp (disch:=omega) only [go_sem,simprocAttr,zD,zE,hc])
    refine⟨(i+1,g+1,acc++ [(i:Int)]), [],⟨hi,by simp;omega,by simpa [ins,hc] using h3⟩,by simp only;omega,?_⟩
    constructor<;>((try refine zO ?_);(try with_reducible exact True.intro))
   ·(try simp (disch:=omega) only [go_sem,simprocAttr,zD,zE,hc])
    refine⟨(i+1,g,acc), [],⟨hi,by simp only;omega,by simpa [ins,hc] using h3⟩,by simp only;omega,?_⟩
    constructor<;>((try refine zO ?_);(try with_reducible exact True.intro))
  ·obtain rfl:i=ls.length:=by omega
   rw [List.drop_length] at h3
   (try simp (disch:=omega) only [go_sem,simprocAttr,zD,zE,←h3,ins])
theorem In_spec (N n:Int) (ls:List (Int × Int)) (hl:ls.length≤1000000):Pure Tryz.prog 53 [eG N ls,sci .i64 n] (lI (ins n 0 ls)):=by
 refine pcall0 200 (fn:=Tryz.f53) Tryz.func53 rfl (by simp [Tryz.ntmps53]) zB zB fun hs=>?_
 ((try refine zW ?_);(try with_reducible exact True.intro))
 (refine at_call 200 ?_;(refine zW ?_;try with_reducible exact True.intro);refine callA_of (of1_spec _ _ _ hl) zB ?_;((try refine zW ?_);(try with_reducible exact True.intro)))
 ((try refine zW ?_);(try with_reducible exact True.intro))
def HostP (N:Int) (ls:List (Int × Int)) (T:List Nd) (h:Hs):Prop:=
 TabP N ls T∧0≤h.node∧h.node < N∧0≤h.state∧(∀x,T[h.node.toNat]? =some x→h.state < x.states.length)∧h.inn.length=(ins h.node 0 ls).length∧h.out.length=(outs h.node 0 ls).length∧ToldP h
theorem hRight_spec (s:Sc) (h:Hs) (hl:s.ls.length≤1000000) (hT:SmallT s.T) (hg:gHs h):Pure Tryz.prog 13 [lApp s,lHs h] (scb (tB (HostP s.N s.ls s.T h))):=by
 have hg2:=hg
 obtain⟨N,ls,T,ff,room,acts⟩:=s
 obtain⟨node,state,steps,inn,out⟩:=h
 simp only at hl hT
 have bad: ∀ {q:Prop},(HostP N ls T ⟨node,state,steps,inn,out⟩→q)→ ¬q→tB (HostP N ls T ⟨node,state,steps,inn,out⟩)=false:=fun f g=>tB_neg fun h=>g (f h)
 have b1:=hT.1
 obtain⟨b2,b3,b4,b5⟩:=hg
 simp only at b2 b3 b4 b5
 refine pcall0 200 (fn:=Tryz.f13) Tryz.func13 rfl (by simp [Tryz.ntmps13]) zB zB fun hs=>?_
 ((try refine zW ?_);(try with_reducible exact True.intro))
 (refine walk_trim [2,3] trivial zL ?_;(refine zW ?_;try with_reducible exact True.intro);refine irun_walk (id:=1) (n:=200) [none,none,none,none,some [],none,none,none,none,none,none,none,none,none,none,none,none,none,none,none,none,none,none,none,none,none,none,none,none,none,none,none,none,none,none,none,none] mixed (by kernel_rfl) ?_)
 ((try refine zW ?_);(try with_reducible exact True.intro))
 (refine at_dcall ?_;(refine zW ?_;try with_reducible exact True.intro);refine callA_of (tabRight_spec N ls T hT) zB ?_;((try refine zW ?_);(try with_reducible exact True.intro)))
 by_cases hR:TabP N ls T
 ·have eR:=tB_pos hR
  have hN:(T.length:Int)=N:=hR.2.1
  have hN6:N≤6:=hR.1.2.1
  by_cases h1:node < 0
  ·have e:=bad (fun q=>q.2.1) (by simp only;omega)
   (try simp (maxSteps:=2000000) (disch:=omega) only [go_sem,simprocAttr,zD,zE,eR,e])
  by_cases h2:N≤node
  ·have e:=bad (fun q=>q.2.2.1) (by simp only;omega)
   (try simp (maxSteps:=2000000) (disch:=omega) only [go_sem,simprocAttr,zD,zE,eR,e])
  obtain⟨n,rfl⟩:=Int.eq_ofNat_of_zero_le (show 0≤node by omega)
  have ln:n < T.length:=by omega
  by_cases h3:state < 0
  ·have e:=bad (fun q=>q.2.2.2.1) (by simp only;omega)
   (try simp (maxSteps:=2000000) (disch:=omega) only [go_sem,simprocAttr,zD,zE,eR,e])
  have hx:=hR.2.2 n _ (List.getElem?_eq_getElem ln)
  have hq:T[n]? =some T[n]:=List.getElem?_eq_getElem ln
  generalize hp:T[n]=p at *
  obtain⟨st,ss⟩:=p
  have hs8:ss.length≤8:=hx.2.1
  by_cases h4:(ss.length:Int)≤state
  ·have e:=bad (fun q=>q.2.2.2.2.1) (by simp only;intro q;have:=q _ hq;simp only at this;omega)
   (try simp (maxSteps:=2000000) (disch:=omega) only [go_sem,simprocAttr,zD,zE,eR,eNd,hp,e])
  have h4': ∀x:Nd,T[((n:Nat):Int).toNat]? =some x→state < (x.states.length:Int):=by
   intro x hx;rw [Int.toNat_natCast,hq] at hx;cases hx;simp only;omega
  (try simp (maxSteps:=2000000) (disch:=omega) only [go_sem,simprocAttr,zD,zE,eR,eNd,hp])
  (refine walk_trim [2,3] trivial zL ?_;(refine zW ?_;try with_reducible exact True.intro);refine irun_walk (id:=3) (n:=200) [none,none,none,none,none,none,none,some [0,1,2],none,none,none,none,none,none,none,none,none,none,some [11,12,13],none,none,none,none,none,some [],some [],none,none] mixed (by kernel_rfl) ?_)
  ((try refine zW ?_);(try with_reducible exact True.intro))
  (refine at_dcall ?_;(refine zW ?_;try with_reducible exact True.intro);refine callA_of (In_spec N n ls hl) zB ?_;((try refine zW ?_);(try with_reducible exact True.intro)))
  by_cases h5:inn.length=(ins n 0 ls).length
  ·(try simp (maxSteps:=2000000) (disch:=omega) only [go_sem,simprocAttr,zD,zE,h5])
   (refine at_dcall ?_;(refine zW ?_;try with_reducible exact True.intro);refine callA_of (Out_spec N n ls hl) zB ?_;((try refine zW ?_);(try with_reducible exact True.intro)))
   by_cases h6:out.length=(outs n 0 ls).length
   ·(try simp (maxSteps:=2000000) (disch:=omega) only [go_sem,simprocAttr,zD,zE,h5,h6])
    (refine at_dcall ?_;(refine zW ?_;try with_reducible exact True.intro);refine callA_of (told_spec ⟨n,state,steps,inn,out⟩) zB ?_;((try refine zW ?_);(try with_reducible exact True.intro)))
    ((try refine zW ?_);(try with_reducible exact True.intro))
    (refine at_dcall ?_;(refine zW ?_;try with_reducible exact True.intro);refine callA_of (pRight_spec ⟨n,state,steps,inn,out⟩ ⟨by simp only;omega,by simp only;omega⟩ ⟨by simp only;omega,by simp only;omega⟩ hg2) zB ?_;((try refine zW ?_);(try with_reducible exact True.intro)))
    by_cases hD:ToldP ⟨n,state,steps,inn,out⟩
    ·have eD:=tB_pos hD
     have e:tB (HostP N ls T ⟨n,state,steps,inn,out⟩)=true:=tB_pos ⟨hR,by simp only;omega,by simp only;omega,by simp only;omega,h4',h5,h6,hD⟩
     (try simp (maxSteps:=2000000) (disch:=omega) only [go_sem,simprocAttr,zD,zE,eD,e])
    ·have eD:=tB_neg hD
     have e:=bad (fun q=>q.2.2.2.2.2.2.2) hD
     (try simp (maxSteps:=2000000) (disch:=omega) only [go_sem,simprocAttr,zD,zE,eD,e])
   ·have e:=bad (fun q=>q.2.2.2.2.2.2.1) h6
    (try simp (maxSteps:=2000000) (disch:=omega) only [go_sem,simprocAttr,zD,zE,h5,h6,e])
  ·have e:=bad (fun q=>q.2.2.2.2.2.1) h5
   (try simp (maxSteps:=2000000) (disch:=omega) only [go_sem,simprocAttr,zD,zE,h5,e])
 ·have eR:=tB_neg hR
  have e:=bad (fun q=>q.1) hR
  (try simp (maxSteps:=2000000) (disch:=omega) only [go_sem,simprocAttr,zD,zE,eR,e])
end Go.Proofs.HO
