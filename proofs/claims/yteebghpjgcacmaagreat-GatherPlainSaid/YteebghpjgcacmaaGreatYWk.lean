/- Facts that the proofs of this claim lean on. -/
import Derived.Test.YteebghpjgcacmaaGreatYW
import Derived.Test.YteebghpjgcacmaaGreatYKa
set_option linter.unusedSimpArgs false
set_option linter.unusedVariables false
/- Which tables may be. -/
namespace Go.Proofs.GY
open Go Go.Idl Go.Proofs Go.GP
set_option maxHeartbeats 20000000
set_option maxRecDepth 100000
def qcq (T:List Nd):Prop:=T.length≤1000000∧ ∀(n:Nat) (x:Nd),T[n]? =some x→x.states.length≤1000000∧ ∀(j:Nat) (s:St),x.states[j]? =some s→qma s
theorem qfJ (N:Int) (ls:List (Int × Int)) (T:List Nd) (hT:qcq T):Pure Tryz.prog 51 [.p (.imm 2 (pr eNd T)),eG N ls] (scb (tB (TabP N ls T))):=by
 obtain⟨hT1,hT2⟩:=hT
 refine qaf 200 (fn:=Tryz.f51) Tryz.func51 rfl (by simp [Tryz.ntmps51]) zB zB fun hs=>?_
 try refine zW ?_
 (refine qac 200 ?_;refine zW ?_;refine callA_of (qmR N ls) zB ?_;((try refine zW ?_);(try with_reducible exact True.intro)))
 by_cases hR:qcI N ls
 ·have eR:qaV N ls=true:=qcb.2 hR
  have hl:ls.length≤1000000:=Nat.le_trans hR.2.2.1 (by omega)
  by_cases hN:(T.length:Int)=N
  ·(try simp (maxSteps:=2000000) (disch:=omega) only [go_sem,simprocAttr,zD,zE,eR,hN])
   (refine walk_trim [3,19,20,21] trivial zL ?_;((try refine zW ?_);(try with_reducible exact True.intro)))
   refine qad 200 200 (fun i:Nat=>i≤T.length∧ ∀(j:Nat) (x:Nd),j < i→T[j]? =some x→qhw ls j x)
    (fun i=>⟨65, [(3, .ptr 0 0 0 0),(19, .p (.imm 2 (pr eNd T))),(20,sci .i64 T.length),(21,sci .i64 i)], [],1, [(0, .arr 2 0 [[sci .i64 N,lII ls]])]⟩) (fun i=>T.length - i) (0) [] ?_ ?_ ?_
   ·simp
   ·constructor<;>(try simp (maxSteps:=2000000) (disch:=omega) only [go_sem,simprocAttr,zD,zE,Int.natCast_zero,List.take_of_length_le,List.append_assoc,hN])
   ·rintro i hi
    obtain⟨hi,hinvi⟩:=hi
    try refine zW ?_
    by_cases li:i < T.length
    ·have bad: ¬qhw ls i T[i]→tB (TabP N ls T)=false:=fun q=>qah fun h=>q (h.2.2 i _ (List.getElem?_eq_getElem li))
     have sn:=qaC li hinvi
     obtain⟨hx1,hx2⟩:=hT2 i _ (List.getElem?_eq_getElem li)
     generalize hp:T[i]=p at *
     obtain⟨st,ss⟩:=p
     simp only at hx1 hx2
     by_cases h1:ss.length < 1
     ·have h1':(ss.length:Int) < 1:=by omega
      have e:=bad fun q=>by have:=q.1;simp only at this;omega
      (try simp (maxSteps:=2000000) (disch:=omega) only [go_sem,simprocAttr,zD,zE,eNd,hp,h1',e])
     have h1': ¬(ss.length:Int) < 1:=by omega
     by_cases h2:8 < ss.length
     ·have h2':(8:Int) < ss.length:=by omega
      have e:=bad fun q=>by have:=q.2.1;simp only at this;omega
      (try simp (maxSteps:=2000000) (disch:=omega) only [go_sem,simprocAttr,zD,zE,eNd,hp,h1',h2',e])
     have h2': ¬(8:Int) < ss.length:=by omega
     by_cases h3:st < 0
     ·have e:=bad fun q=>by have:=q.2.2.1.1;simp only at this;omega
      (try simp (maxSteps:=2000000) (disch:=omega) only [go_sem,simprocAttr,zD,zE,eNd,hp,h1',h2',h3,e])
     by_cases h4:(ss.length:Int)≤st
     ·have e:=bad fun q=>by have:=q.2.2.1.2;simp only at this;omega
      (try simp (maxSteps:=2000000) (disch:=omega) only [go_sem,simprocAttr,zD,zE,eNd,hp,h1',h2',h3,h4,e])
     (try simp (maxSteps:=2000000) (disch:=omega) only [go_sem,simprocAttr,zD,zE,eNd,hp,h1',h2',h3,h4])
     (refine walk_trim [3,5,6,19,20,21,50,51,52] trivial zL ?_;((try refine zW ?_);(try with_reducible exact True.intro)))
     refine qad 200 200 (fun k:Nat=>k≤ss.length∧ ∀(j:Nat) (s:St),j < k→ss[j]? =some s→MayP ls i ss s)
      (fun k=>⟨65, [(3, .ptr 0 0 0 0),(5,sci .i64 i),(6, .ptr 1 0 0 0),(19, .p (.imm 2 (pr eNd T))),(20,sci .i64 T.length),(21,sci .i64 i),(50, .p (.imm 4 (pr eSt ss))),(51,sci .i64 ss.length),(52,sci .i64 k)], [],2, [(1, .arr 2 0 [[sci .i64 st, .p (.imm 4 (pr eSt ss))]]),(0, .arr 2 0 [[sci .i64 N,lII ls]])]⟩) (fun k=>ss.length - k) (0) [] ?_ ?_ ?_
     ·simp
     ·constructor<;>(try simp (maxSteps:=2000000) (disch:=omega) only [go_sem,simprocAttr,zD,zE,Int.natCast_zero,List.take_of_length_le,List.append_assoc,hN])
     ·rintro k hk
      obtain⟨hk,hinvk⟩:=hk
      try refine zW ?_
      by_cases lk:k < ss.length
      ·have bad2: ¬MayP ls i ss ss[k]→tB (TabP N ls T)=false:=fun q=>bad fun h=>q (h.2.2.2 k _ (List.getElem?_eq_getElem lk))
       have sn2:=qaC lk hinvk
       have hsm:=hx2 k _ (List.getElem?_eq_getElem lk)
       generalize hs:ss[k]=s at *
       (try simp (maxSteps:=2000000) (disch:=omega) only [go_sem,simprocAttr,zD,zE,eSt,hs])
       (refine qac 200 ?_;refine zW ?_;refine callA_of (qpg s i st ss N ls hl hsm) zB ?_;((try refine zW ?_);(try with_reducible exact True.intro)))
       by_cases h:MayP ls i ss s
       ·have e:=qam h
        (try simp (maxSteps:=2000000) (disch:=omega) only [go_sem,simprocAttr,zD,zE,e])
        refine⟨k+1, [],⟨lk,sn2 h⟩,by omega,?_⟩
        constructor<;>(try simp (maxSteps:=2000000) (disch:=omega) only [go_sem,simprocAttr,zD,zE,hN])
       ·have e:=qah h
        have e2:=bad2 h
        (try simp (maxSteps:=2000000) (disch:=omega) only [go_sem,simprocAttr,zD,zE,e,e2])
      ·obtain rfl:k=ss.length:=by omega
       have hall:=all_end hinvk
       try refine zO ?_
       refine⟨i+1, [],⟨li,sn ⟨by simp only;omega,by simp only;omega,⟨by simp only;omega,by simp only;omega⟩,hall⟩⟩,by omega,?_⟩
       constructor<;>(try simp (maxSteps:=2000000) (disch:=omega) only [go_sem,simprocAttr,zD,zE,hN])
    ·obtain rfl:i=T.length:=by omega
     have e:tB (TabP N ls T)=true:=qam ⟨hR,hN,all_end hinvi⟩
     (try simp (maxSteps:=2000000) (disch:=omega) only [go_sem,simprocAttr,zD,zE,e])
  ·have e:tB (TabP N ls T)=false:=qah fun q=>hN q.2.1
   (try simp (maxSteps:=2000000) (disch:=omega) only [go_sem,simprocAttr,zD,zE,eR,hN,e])
 ·have eR:qaV N ls=false:=Bool.eq_false_iff.2 fun q=>hR (qcb.1 q)
  have e:tB (TabP N ls T)=false:=qah fun q=>hR q.1
  (try simp (maxSteps:=2000000) (disch:=omega) only [go_sem,simprocAttr,zD,zE,eR,e])
end Go.Proofs.GY
/- What the cut leaves is small. -/
namespace Go.Proofs.GY
open Go Go.Idl Go.Proofs Go.GP
theorem qpm (n:Nd):OkNd (qfj n):=by
 refine⟨by simp only [qfj,List.length_map,List.length_take];omega,fun s hs=>?_⟩
 obtain⟨t,_,rfl⟩:=List.mem_map.1 hs
 refine⟨?_,?_,fun p hp=>?_,?_⟩
 ·simp only [qew,List.length_take];omega
 ·simp only [qew,List.length_map,List.length_take];omega
 ·obtain⟨q,_,rfl⟩:=List.mem_map.1 hp
  simp only [cutP,List.length_take];omega
 ·simp only [qew,List.length_take];omega
theorem ok_cut (s:Sc):(cutSc s).T.length≤8∧(cutSc s).ls.length≤1000000∧ ∀n∈(cutSc s).T,OkNd n:=by
 refine⟨by simp only [cutSc,List.length_map,List.length_take];omega,by simp only [cutSc,List.length_take];omega,fun n hn=>?_⟩
 obtain⟨m,_,rfl⟩:=List.mem_map.1 hn
 exact qpm m
theorem qpK {T:List Nd} (h8:T.length≤8) (h: ∀n∈T,OkNd n):qcq T:=by
 refine⟨by omega,fun n x hx=>?_⟩
 obtain⟨a,b⟩:=h x (List.mem_of_getElem? hx)
 refine⟨by omega,fun j s hs=>?_⟩
 obtain⟨c1,c2,c3,c4⟩:=b s (List.mem_of_getElem? hs)
 exact⟨by omega,by omega,by omega⟩
end Go.Proofs.GY
