/- Facts that the proofs of this claim lean on. -/
import Derived.Test.YtnbhjoopcaaafaaGreatHI
set_option linter.unusedSimpArgs false
set_option linter.unusedVariables false
/- Tables handed to the document; applications and scripts. -/
namespace Go.Proofs.HO
open Go Go.Idl Go.Proofs
set_option maxHeartbeats 20000000
set_option maxRecDepth 100000
theorem L4Ref_spec (T:List Nd) (hT:T.length≤8) (hk: ∀n∈T,OkNd n):Pure Tryz.prog 47 [.p (.imm 2 (pr eNd T))] (.p (.imm 2 (pr eNd T))):=by
 refine pcall0 200 (fn:=Tryz.f47) Tryz.func47 rfl (by simp [Tryz.ntmps47]) zB zB fun hs=>?_
 ((try refine zW ?_);(try with_reducible exact True.intro))
 refine walk_own 3 2 trivial rfl (.inl rfl) ?_
 (refine walk_trim [0,3,4] trivial zL ?_;((try refine zW ?_);(try with_reducible exact True.intro)))
 refine walk_floop 200 200 (fun i:Nat × Nat=>i.1≤T.length)
  (fun i=>⟨49, [(0, .p (.imm 2 (pr eNd T))),(3, .ref 0 i.2 0 i.1),(4,sci .i64 i.1)], [],1, [(0, .arr 2 i.2 (ir eNd (T.take i.1)))]⟩) (fun i=>T.length - i.1) (0,0) [] ?_ ?_ ?_
 ·simp
 ·constructor<;>(try simp (maxSteps:=2000000) (disch:=omega) only [go_sem,simprocAttr,zD,zE,Int.natCast_zero,List.take_of_length_le,List.append_assoc,List.take_zero])
 ·rintro⟨i,g⟩ hi
  simp only at hi
  ((try refine zW ?_);(try with_reducible exact True.intro))
  by_cases li:i < T.length
  ·have hnd:=hk T[i] (List.getElem_mem li)
   have hpt:T.take (i+1)=T.take i++ [T[i]]:=tks li
   have htt:(T.take i).length=i:=tkl hi
   have hti:(T.take i).take i=T.take i:=tkt
   generalize hp:T[i]=p at *
   obtain⟨st,ss⟩:=p
   obtain⟨hs1,hs2⟩:=hnd
   simp only at hs1 hs2
   (try simp (maxSteps:=2000000) (disch:=omega) only [go_sem,simprocAttr,zD,zE,eNd,hp])
   refine walk_ownB 1 0 1 4 trivial rfl rfl rfl (.inr rfl) ?_
   simp only [List.set_cons_zero,List.set_cons_succ,Nat.reduceAdd]
   (refine walk_trim [0,3,4,5,6] trivial zL ?_;((try refine zW ?_);(try with_reducible exact True.intro)))
   refine walk_floop 200 200 (fun k:Nat × Nat=>k.1≤ss.length)
    (fun k=>⟨49, [(0, .p (.imm 2 (pr eNd T))),(3, .ref 0 g 0 i),(4,sci .i64 i),(5, .ptr 1 0 0 0),(6,sci .i64 k.1)], [],3, [(2, .arr 4 k.2 (ir eSt (ss.take k.1))),(1, .arr 2 0 [[sci .i64 st, .ref 2 k.2 0 k.1]]),(0, .arr 2 g (ir eNd (T.take i)))]⟩) (fun k=>ss.length - k.1) (0,0) [] ?_ ?_ ?_
   ·simp
   ·constructor<;>(try simp (maxSteps:=2000000) (disch:=omega) only [go_sem,simprocAttr,zD,zE,Int.natCast_zero,List.take_of_length_le,List.append_assoc,List.take_zero])
   ·rintro⟨k,e⟩ hk
    simp only at hk
    ((try refine zW ?_);(try with_reducible exact True.intro))
    by_cases lk:k < ss.length
    ·have hst:=hs2 ss[k] (List.getElem_mem lk)
     have hpt2:ss.take (k+1)=ss.take k++ [ss[k]]:=tks lk
     have htt2:(ss.take k).length=k:=tkl hk
     have hti2:(ss.take k).take k=ss.take k:=tkt
     (try simp (maxSteps:=2000000) (disch:=omega) only [go_sem,simprocAttr,zD,zE,eNd,hp])
     (refine walk_trim [0,3,4,5,6] trivial zL ?_;(refine zW ?_;try with_reducible exact True.intro);refine irun_walk (id:=9) (n:=200) [none,none,none,none,none,none,none,none,none,none,some [0,1],some [0,1],some [],none,some []] mixed (by kernel_rfl) ?_)
     (try simp (maxSteps:=2000000) (disch:=omega) only [go_sem,simprocAttr,zD,zE,eNd,hp,eSt,htt2])
     (refine at_dcall ?_;(refine zW ?_;try with_reducible exact True.intro);refine callA_of (L4state_spec ss[k] hst) zB ?_;((try refine zW ?_);(try with_reducible exact True.intro)))
     (try simp (maxSteps:=2000000) (disch:=omega) only [go_sem,simprocAttr,zD,zE,htt2])
     refine⟨(k+1,e+1), [],by first | assumption | omega,?_,?_⟩
     ·(try simp only []);omega
     ·constructor<;>(try simp (maxSteps:=2000000) (disch:=omega) only [go_sem,simprocAttr,zD,zE,hpt2,hti2,Nat.min_eq_left,eSt,ir_snoc,List.map_cons,List.map_nil,List.append_assoc])
    ·obtain rfl:k=ss.length:=by omega
     (try simp (maxSteps:=2000000) (disch:=omega) only [go_sem,simprocAttr,zD,zE,eNd,hp,htt])
     refine⟨(i+1,g+1), [2],by first | assumption | omega,?_,?_⟩
     ·(try simp only []);omega
     ·constructor<;>(try simp (maxSteps:=2000000) (disch:=omega) only [go_sem,simprocAttr,zD,zE,hpt,hti,eNd,List.take_length,ir_snoc,List.map_cons,List.map_nil,List.append_assoc])
  ·obtain rfl:i=T.length:=by omega
   (try simp (maxSteps:=2000000) (disch:=omega) only [go_sem,simprocAttr,zD,zE,List.take_length])
end Go.Proofs.HO
/- Applications and scripts cut, and handed to the document. -/
namespace Go.Proofs.HO
open Go Go.Idl Go.Proofs
set_option maxHeartbeats 20000000
set_option maxRecDepth 100000
def cutSc (s:Sc):Sc:=⟨s.N,s.ls.take 40,(s.T.take 8).map cutNd,s.fifo,s.room,s.acts.take 60⟩
theorem L5Cut_spec (s:Sc):Pure Tryz.prog 10 [lApp s] (lApp (cutSc s)):=by
 refine pcall0 200 (fn:=Tryz.f10) Tryz.func10 rfl (by simp [Tryz.ntmps10]) zB zB fun hs=>?_
 ((try refine zW ?_);(try with_reducible exact True.intro))
 (refine walk_trim [1,2,27] trivial zL ?_;(refine zW ?_;try with_reducible exact True.intro);refine irun_walk (id:=1) (n:=200) [none,none,some [3,4,6,7],none,none,some [6,7],none,none,none,some []] mixed (by kernel_rfl) ?_)
 ((try refine zW ?_);(try with_reducible exact True.intro))
 (refine at_dcall ?_;(refine zW ?_;try with_reducible exact True.intro);refine callA_of (L3Cut_spec _ _) zB ?_;((try refine zW ?_);(try with_reducible exact True.intro)))
 ((try refine zW ?_);(try with_reducible exact True.intro))
 (refine at_dcall ?_;(refine zW ?_;try with_reducible exact True.intro);refine callA_of (L4Cut_spec _) zB ?_;((try refine zW ?_);(try with_reducible exact True.intro)))
 (try simp only [go_sem,simprocAttr,cutSc])
theorem L5App_spec (s:Sc) (hT:s.T.length≤8) (hk: ∀n∈s.T,OkNd n):Pure Tryz.prog 11 [lApp s] (lApp s):=by
 refine pcall0 200 (fn:=Tryz.f11) Tryz.func11 rfl (by simp [Tryz.ntmps11]) zB zB fun hs=>?_
 ((try refine zW ?_);(try with_reducible exact True.intro))
 (refine walk_trim [1,2,33] trivial zL ?_;(refine zW ?_;try with_reducible exact True.intro);refine irun_walk (id:=1) (n:=200) [none,none,some [3,4,6,7],none,none,some [6,7],none,none,none,some []] mixed (by kernel_rfl) ?_)
 ((try refine zW ?_);(try with_reducible exact True.intro))
 (refine at_dcall ?_;(refine zW ?_;try with_reducible exact True.intro);refine callA_of (L3Ref_spec _ _) zB ?_;((try refine zW ?_);(try with_reducible exact True.intro)))
 ((try refine zW ?_);(try with_reducible exact True.intro))
 (refine at_dcall ?_;(refine zW ?_;try with_reducible exact True.intro);refine callA_of (L4Ref_spec _ hT hk) zB ?_;((try refine zW ?_);(try with_reducible exact True.intro)))
 ((try refine zW ?_);(try with_reducible exact True.intro))
end Go.Proofs.HO
