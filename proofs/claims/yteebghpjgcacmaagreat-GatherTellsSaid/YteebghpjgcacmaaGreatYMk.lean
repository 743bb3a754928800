/- What any pieces are, merged, whole, built: the law's walk. -/
import Derived.Test.YteebghpjgcacmaaGreatYMi
import Derived.Test.YteebghpjgcacmaaGreatYMj
import Derived.Test.YteebghpjgcacmaaGreatYWd
set_option linter.unusedSimpArgs false
set_option linter.unusedVariables false
namespace Go.Proofs.GY
open Go Go.Idl Go.Proofs Go.GP
set_option maxHeartbeats 20000000
set_option maxRecDepth 100000
theorem mrg_le (a b:List Pc):(mrg a b).1.length≤a.length+b.length:=by
 unfold mrg
 split
 ·rename_i s h;exact Nat.le_of_eq (Go.GN.merge_len Pc.node h)
 ·exact Nat.zero_le _
theorem Tells_pure (s0:Sc) (l0 k0:List Pc):Pure Tryz.prog 3 [lApp s0,lPs l0,lPs k0] (scb true):=by
 obtain⟨h8,hl,ho⟩:=ok_cut s0
 have cl:=Cut_spec l0
 have gl:=cutPs_g l0
 have nl:=cutPs_le l0
 rw [show(l0.take 8).map cutPc=cutPs l0 from rfl] at cl
 have ck:=Cut_spec k0
 have gk:=cutPs_g k0
 have nk:=cutPs_le k0
 rw [show(k0.take 8).map cutPc=cutPs k0 from rfl] at ck
 generalize cutPs l0=l at *
 generalize cutPs k0=k at *
 refine pcall0 200 (fn:=Tryz.f3) Tryz.func3 rfl (by simp [Tryz.ntmps3]) zB zB fun hs=>?_
 ((try refine zW ?_);(try with_reducible exact True.intro))
 (refine at_call 200 ?_;(refine zW ?_;try with_reducible exact True.intro);refine callA_of (L5Cut_spec s0) zB ?_;((try refine zW ?_);(try with_reducible exact True.intro)))
 generalize cutSc s0=s at *
 have hT:=small_ok h8 ho
 obtain⟨N,ls,T,ff,room,acts⟩:=s
 simp only at h8 hl ho hT
 ((try refine zO ?_);(try with_reducible exact True.intro))
 (refine at_call 200 ?_;(refine zW ?_;try with_reducible exact True.intro);refine callA_of (cl) zB ?_;((try refine zW ?_);(try with_reducible exact True.intro)))
 ((try refine zO ?_);(try with_reducible exact True.intro))
 (refine at_call 200 ?_;(refine zW ?_;try with_reducible exact True.intro);refine callA_of (ck) zB ?_;((try refine zW ?_);(try with_reducible exact True.intro)))
 ((try refine zO ?_);(try with_reducible exact True.intro))
 (refine at_call 200 ?_;(refine zW ?_;try with_reducible exact True.intro);refine callA_of (L5App_spec ⟨N,ls,T,ff,room,acts⟩ h8 ho) zB ?_;((try refine zW ?_);(try with_reducible exact True.intro)))
 ((try refine zO ?_);(try with_reducible exact True.intro))
 (refine at_call 200 ?_;(refine zW ?_;try with_reducible exact True.intro);refine callA_of (Refs_spec l (by omega)) zB ?_;((try refine zW ?_);(try with_reducible exact True.intro)))
 ((try refine zO ?_);(try with_reducible exact True.intro))
 (refine at_call 200 ?_;(refine zW ?_;try with_reducible exact True.intro);refine callA_of (Merge_spec l k gl gk (by omega)) zB ?_;((try refine zW ?_);(try with_reducible exact True.intro)))
 ((try refine zO ?_);(try with_reducible exact True.intro))
 (refine at_call 200 ?_;(refine zW ?_;try with_reducible exact True.intro);refine callA_of (Refs_spec k (by omega)) zB ?_;((try refine zW ?_);(try with_reducible exact True.intro)))
 ((try refine zO ?_);(try with_reducible exact True.intro))
 (refine at_call 200 ?_;(refine zW ?_;try with_reducible exact True.intro);refine callA_of (R13Merge_spec l k (by omega)) zB ?_;((try refine zW ?_);(try with_reducible exact True.intro)))
 rw [mD_mrg]
 have hml:=mrg_le l k
 generalize hM:mrg l k=M at *
 obtain⟨m,e⟩:=M
 simp only at hml
 ((try refine zO ?_);(try with_reducible exact True.intro))
 (refine walk_trim [1,3,7,8,9,10,11,12] trivial zL ?_;(refine zW ?_;try with_reducible exact True.intro);refine irun_walk (id:=7) (n:=200) [none,some [2],none,some [],none,none,none,none,none,none,none,none,none,some [14,15],none,none,some [],none,none,none,none,some [22],none,some [],some [],none,none] mixed (by kernel_rfl) ?_)
 ((try refine zO ?_);(try with_reducible exact True.intro))
 (refine at_dcall ?_;(refine zW ?_;try with_reducible exact True.intro);refine callA_of (Refs_spec m (by omega)) zB ?_;((try refine zW ?_);(try with_reducible exact True.intro)))
 ((try refine zO ?_);(try with_reducible exact True.intro))
 (refine at_dcall ?_;(refine zW ?_;try with_reducible exact True.intro);refine callA_of (All_spec m m) zB ?_;((try refine zW ?_);(try with_reducible exact True.intro)))
 have hsame:sameAll m m=true:=sameAll_iff.2 rfl
 have hee:(e != e)=false:=bne_self_eq_false e
 (try simp (maxSteps:=2000000) (disch:=omega) only [go_sem,simprocAttr,zD,zE,hsame,hee])
 (refine at_dcall ?_;(refine zW ?_;try with_reducible exact True.intro);refine callA_of (Whole_spec ⟨N,ls,T,ff,room,acts⟩ l hl hT gl) zB ?_;((try refine zW ?_);(try with_reducible exact True.intro)))
 ((try refine zO ?_);(try with_reducible exact True.intro))
 (refine at_dcall ?_;(refine zW ?_;try with_reducible exact True.intro);refine callA_of (R13Whole_spec ⟨N,ls,T,ff,room,acts⟩ l hl hT gl) zB ?_;((try refine zW ?_);(try with_reducible exact True.intro)))
 have hww:(tB (WholeP N ls T l) != tB (WholeP N ls T l))=false:=bne_self_eq_false _
 (try simp (maxSteps:=2000000) (disch:=omega) only [go_sem,simprocAttr,zD,zE,hww])
 (refine at_dcall ?_;(refine zW ?_;try with_reducible exact True.intro);refine callA_of (Steps_spec l (by omega)) zB ?_;((try refine zW ?_);(try with_reducible exact True.intro)))
 ((try refine zO ?_);(try with_reducible exact True.intro))
 (refine at_dcall ?_;(refine zW ?_;try with_reducible exact True.intro);refine callA_of (R13Steps_spec l (by omega)) zB ?_;((try refine zW ?_);(try with_reducible exact True.intro)))
 ((try refine zO ?_);(try with_reducible exact True.intro))
 (refine at_dcall ?_;(refine zW ?_;try with_reducible exact True.intro);refine callA_of (Ints_spec _ _) zB ?_;((try refine zW ?_);(try with_reducible exact True.intro)))
 have hss:((l.map fun x=>x.steps)==l.map fun x=>x.steps)=true:=beq_self_eq_true _
 (try simp (maxSteps:=2000000) (disch:=omega) only [go_sem,simprocAttr,zD,zE,hss])
 (refine at_call 200 ?_;(refine zW ?_;try with_reducible exact True.intro);refine callA_of (R4Right_spec N ls T hT) zB ?_;((try refine zW ?_);(try with_reducible exact True.intro)))
 by_cases hR:TabP N ls T
 rotate_left
 ·have e2:=tB_neg hR
  (try simp (maxSteps:=2000000) (disch:=omega) only [go_sem,simprocAttr,zD,zE,e2])
  (refine at_call 200 ?_;(refine zW ?_;try with_reducible exact True.intro);refine callA_of (fixed_spec) zB ?_;((try refine zW ?_);(try with_reducible exact True.intro)))
 have e2:=tB_pos hR
 (try simp (maxSteps:=2000000) (disch:=omega) only [go_sem,simprocAttr,zD,zE,e2])
 (refine walk_trim [1,3,7,8,13] trivial zL ?_;((try refine zW ?_);(try with_reducible exact True.intro)))
 refine walk_floop 200 200 (fun i:Nat=>i≤2)
  (fun i=>⟨106, [(1,lPs l),(3, .ptr 0 0 0 0),(7, .ptr 1 0 0 0),(8,lPs l),(13,sci .i64 i)], [],2, [(1, .arr 4 0 [[sci .i64 N,lII ls, .p (.imm 2 (pr eNd T)),scb ff]]),(0, .arr 4 0 [[sci .i64 N,lII ls, .p (.imm 2 (pr eNd T)),scb ff]])]⟩) (fun i=>2 - i) (0) [] ?_ ?_ ?_
 ·simp
 ·constructor<;>(try simp (maxSteps:=2000000) (disch:=omega) only [go_sem,simprocAttr,zD,zE,Int.natCast_zero,List.take_of_length_le,List.append_assoc])
 ·rintro i hi
  ((try refine zW ?_);(try with_reducible exact True.intro))
  by_cases li:i < 2
  ·obtain⟨lg,hlg⟩: ∃lg:Bool,((i:Int)==1)=lg:=⟨_,rfl⟩
   have li':(i:Int) < 2:=by omega
   (try simp (maxSteps:=2000000) (disch:=omega) only [go_sem,simprocAttr,zD,zE,li',hlg])
   (refine at_call 200 ?_;(refine zW ?_;try with_reducible exact True.intro);refine callA_of (Build_spec ⟨N,ls,T,ff,room,acts⟩ l lg hl hT gl) zB ?_;((try refine zW ?_);(try with_reducible exact True.intro)))
   (try simp only)
   generalize hB:bldB N ls T l lg=B at *
   obtain⟨⟨S,L,E⟩,e⟩:=B
   have hC:=R13Build_spec ⟨N,ls,T,ff,room,acts⟩ l lg hl hT gl
   simp only at hC
   rw [hB] at hC
   have hee:(e != e)=false:=bne_self_eq_false e
   (try simp (maxSteps:=2000000) (disch:=omega) only [go_sem,simprocAttr,zD,zE,hlg])
   (refine at_call 200 ?_;(refine zW ?_;try with_reducible exact True.intro);refine callA_of (hC) zB ?_;((try refine zW ?_);(try with_reducible exact True.intro)))
   ((try refine zO ?_);(try with_reducible exact True.intro))
   (refine walk_trim [1,3,7,8,13,14,15,16,17] trivial zL ?_;(refine zW ?_;try with_reducible exact True.intro);refine irun_walk (id:=16) (n:=200) [none,some [2],none,some [],none,none,none,none,none,none] mixed (by kernel_rfl) ?_)
   ((try refine zO ?_);(try with_reducible exact True.intro))
   (refine at_dcall ?_;(refine zW ?_;try with_reducible exact True.intro);refine callA_of (L5Ref_spec S L E) zB ?_;((try refine zW ?_);(try with_reducible exact True.intro)))
   ((try refine zO ?_);(try with_reducible exact True.intro))
   (refine at_dcall ?_;(refine zW ?_;try with_reducible exact True.intro);refine callA_of (R5SameR_spec S L E) zB ?_;((try refine zW ?_);(try with_reducible exact True.intro)))
   (try simp (maxSteps:=2000000) (disch:=omega) only [go_sem,simprocAttr,zD,zE,hee])
   refine⟨i+1, [],by first | assumption | omega,?_,?_⟩
   ·(try simp only []);omega
   ·constructor<;>(try simp (maxSteps:=2000000) (disch:=omega) only [go_sem,simprocAttr,zD,zE,List.append_assoc])
  ·obtain rfl:i=2:=by omega
   ((try refine zO ?_);(try with_reducible exact True.intro))
   (refine at_call 200 ?_;(refine zW ?_;try with_reducible exact True.intro);refine callA_of (fixed_spec) zB ?_;((try refine zW ?_);(try with_reducible exact True.intro)))
end Go.Proofs.GY
