/- Facts that the proofs of this claim lean on. -/
import Derived.Test.YtnbhjoopcaaafaaGreatHP8
import Derived.Test.YtnbhjoopcaaafaaGreatHP4
import Derived.Test.YtnbhjoopcaaafaaGreatHGb
import Derived.Test.YtnbhjoopcaaafaaGreatHH4
import Derived.Test.YtnbhjoopcaaafaaGreatHKa
import Derived.Test.YtnbhjoopcaaafaaGreatHM
set_option linter.unusedSimpArgs false
set_option linter.unusedVariables false
/- Whether a host may be, by the document. -/
namespace Go.Proofs.HO
open Go Go.Idl Go.Proofs Go.GP
set_option maxHeartbeats 20000000
set_option maxRecDepth 100000
theorem R9Right_spec (s:Sc) (h:Hs) (hl:s.ls.length≤1000000) (hT:SmallT s.T) (hg:gHs h):Pure Tryz.prog 34 [lApp s,lHs h] (scb (tB (HostP s.N s.ls s.T h))):=by
 have hg2:=hg
 obtain⟨N,ls,T,ff,room,acts⟩:=s
 obtain⟨node,state,steps,inn,out⟩:=h
 simp only at hl hT
 have bad: ∀ {q:Prop},(HostP N ls T ⟨node,state,steps,inn,out⟩→q)→ ¬q→tB (HostP N ls T ⟨node,state,steps,inn,out⟩)=false:=fun f g=>tB_neg fun h=>g (f h)
 have b1:=hT.1
 obtain⟨b2,b3,b4,b5⟩:=hg
 simp only at b2 b3 b4 b5
 refine pcall0 200 (fn:=Tryz.f34) Tryz.func34 rfl (by simp [Tryz.ntmps34]) zB zB fun hs=>?_
 ((try refine zW ?_);(try with_reducible exact True.intro))
 (refine walk_trim [2,3] trivial zL ?_;(refine zW ?_;try with_reducible exact True.intro);refine irun_walk (id:=1) (n:=200) [none,none,none,none,some [],none,none,none,none,none,none,none,none,none,none,none,none,none,none,none,none,none,none,none,none,none,none,none,none,none,none,none,none,none,none,none,none] mixed (by kernel_rfl) ?_)
 ((try refine zW ?_);(try with_reducible exact True.intro))
 (refine at_dcall ?_;(refine zW ?_;try with_reducible exact True.intro);refine callA_of (R4Right_spec N ls T hT) zB ?_;((try refine zW ?_);(try with_reducible exact True.intro)))
 by_cases hR:TabP N ls T
 ·have eR:=tB_pos hR
  have hN:(T.length:Int)=N:=hR.2.1
  have hN6:N≤6:=hR.1.2.1
  by_cases h1:node < 0
  ·have e:=bad (fun q=>q.2.1) (by simp only;omega)
   (try simp (maxSteps:=2000000) (disch:=omega) only [go_sem,simprocAttr,zD,zE,eR,e])
  by_cases h2:N≤node
  ·have e:=bad (fun q=>q.2.2.1) (by simp only;omega)
   (try simp (maxSteps:=2000000) (disch:=omega) only [go_sem,simprocAttr,zD,zE,eR,e])
  obtain⟨n,rfl⟩:=Int.eq_ofNat_of_zero_le (show 0≤node by omega)
  have ln:n < T.length:=by omega
  by_cases h3:state < 0
  ·have e:=bad (fun q=>q.2.2.2.1) (by simp only;omega)
   (try simp (maxSteps:=2000000) (disch:=omega) only [go_sem,simprocAttr,zD,zE,eR,e])
  have hx:=hR.2.2 n _ (List.getElem?_eq_getElem ln)
  have hq:T[n]? =some T[n]:=List.getElem?_eq_getElem ln
  generalize hp:T[n]=p at *
  obtain⟨st,ss⟩:=p
  have hs8:ss.length≤8:=hx.2.1
  by_cases h4:(ss.length:Int)≤state
  ·have e:=bad (fun q=>q.2.2.2.2.1) (by simp only;intro q;have:=q _ hq;simp only at this;omega)
   (try simp (maxSteps:=2000000) (disch:=omega) only [go_sem,simprocAttr,zD,zE,eR,eNd,hp,e])
  have h4': ∀x:Nd,T[((n:Nat):Int).toNat]? =some x→state < (x.states.length:Int):=by
   intro x hx;rw [Int.toNat_natCast,hq] at hx;cases hx;simp only;omega
  (try simp (maxSteps:=2000000) (disch:=omega) only [go_sem,simprocAttr,zD,zE,eR,eNd,hp])
  (refine walk_trim [2,3] trivial zL ?_;(refine zW ?_;try with_reducible exact True.intro);refine irun_walk (id:=3) (n:=200) [none,none,none,none,none,none,none,some [0,1,2],none,none,none,none,none,none,none,none,none,none,some [11,12,13],none,none,none,none,none,none,none,none,none,none,none,some [],none,none] mixed (by kernel_rfl) ?_)
  ((try refine zW ?_);(try with_reducible exact True.intro))
  (refine at_dcall ?_;(refine zW ?_;try with_reducible exact True.intro);refine callA_of (R3In_spec N n ls hl) zB ?_;((try refine zW ?_);(try with_reducible exact True.intro)))
  by_cases h5:inn.length=(ins n 0 ls).length
  ·(try simp (maxSteps:=2000000) (disch:=omega) only [go_sem,simprocAttr,zD,zE,h5])
   (refine at_dcall ?_;(refine zW ?_;try with_reducible exact True.intro);refine callA_of (R3Out_spec N n ls hl) zB ?_;((try refine zW ?_);(try with_reducible exact True.intro)))
   by_cases h6:out.length=(outs n 0 ls).length
   ·(try simp (maxSteps:=2000000) (disch:=omega) only [go_sem,simprocAttr,zD,zE,h5,h6])
    (refine at_dcall ?_;(refine zW ?_;try with_reducible exact True.intro);refine callA_of (R6Right_spec ⟨n,state,steps,inn,out⟩ hg2) zB ?_;((try refine zW ?_);(try with_reducible exact True.intro)))
    by_cases hD:ToldP ⟨n,state,steps,inn,out⟩
    ·have eD:=tB_pos hD
     have e:tB (HostP N ls T ⟨n,state,steps,inn,out⟩)=true:=tB_pos ⟨hR,by simp only;omega,by simp only;omega,by simp only;omega,h4',h5,h6,hD⟩
     (try simp (maxSteps:=2000000) (disch:=omega) only [go_sem,simprocAttr,zD,zE,eD,e])
    ·have eD:=tB_neg hD
     have e:=bad (fun q=>q.2.2.2.2.2.2.2) hD
     (try simp (maxSteps:=2000000) (disch:=omega) only [go_sem,simprocAttr,zD,zE,eD,e])
   ·have e:=bad (fun q=>q.2.2.2.2.2.2.1) h6
    (try simp (maxSteps:=2000000) (disch:=omega) only [go_sem,simprocAttr,zD,zE,h5,h6,e])
  ·have e:=bad (fun q=>q.2.2.2.2.2.1) h5
   (try simp (maxSteps:=2000000) (disch:=omega) only [go_sem,simprocAttr,zD,zE,h5,e])
 ·have eR:=tB_neg hR
  have e:=bad (fun q=>q.1) hR
  (try simp (maxSteps:=2000000) (disch:=omega) only [go_sem,simprocAttr,zD,zE,eR,e])
end Go.Proofs.HO
/- What a host tells: the law's walk. -/
namespace Go.Proofs.HO
open Go Go.Idl Go.Proofs Go.GP
set_option maxHeartbeats 20000000
set_option maxRecDepth 100000
theorem okNd_cut (n:Nd):OkNd (cutNd n):=by
 refine⟨by simp only [cutNd,List.length_map,List.length_take];omega,fun s hs=>?_⟩
 obtain⟨t,_,rfl⟩:=List.mem_map.1 hs
 refine⟨?_,?_,fun p hp=>?_,?_⟩
 ·simp only [cutSt,List.length_take];omega
 ·simp only [cutSt,List.length_map,List.length_take];omega
 ·obtain⟨q,_,rfl⟩:=List.mem_map.1 hp
  simp only [cutP,List.length_take];omega
 ·simp only [cutSt,List.length_take];omega
theorem ok_cut (s:Sc):(cutSc s).T.length≤8∧(cutSc s).ls.length≤1000000∧ ∀n∈(cutSc s).T,OkNd n:=by
 refine⟨by simp only [cutSc,List.length_map,List.length_take];omega,by simp only [cutSc,List.length_take];omega,fun n hn=>?_⟩
 obtain⟨m,_,rfl⟩:=List.mem_map.1 hn
 exact okNd_cut m
theorem small_ok {T:List Nd} (h8:T.length≤8) (h: ∀n∈T,OkNd n):SmallT T:=by
 refine⟨by omega,fun n x hx=>?_⟩
 obtain⟨a,b⟩:=h x (List.mem_of_getElem? hx)
 refine⟨by omega,fun j s hs=>?_⟩
 obtain⟨c1,c2,c3,c4⟩:=b s (List.mem_of_getElem? hs)
 exact⟨by omega,by omega,by omega⟩
end Go.Proofs.HO
