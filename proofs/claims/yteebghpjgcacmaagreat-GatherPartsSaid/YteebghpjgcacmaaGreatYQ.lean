/- Graphs: what each function answers. -/
import Derived.Test.YteebghpjgcacmaaGreatYA
import Derived.Test.YteebghpjgcacmaaGreatGPm
import Derived.Test.YteebghpjgcacmaaGreatIdPd
set_option linter.unusedSimpArgs false
set_option linter.unusedVariables false
namespace Go.Proofs.GY
open Go Go.Idl Go.Proofs Go.GP
set_option maxHeartbeats 20000000
set_option maxRecDepth 100000
def nodeB (N n:Int):Bool:=decide (0≤n) && decide (n < N)
theorem node_spec (N n:Int) (ls:List (Int × Int)):Pure Tryz.prog 120 [eG N ls,sci .i64 n] (scb (nodeB N n)):=by
 refine pcall0 200 (fn:=Tryz.f120) Tryz.func120 rfl (by simp [Tryz.ntmps120]) zB zB fun hs=>?_
 (try simp only [go_sem,simprocAttr,nodeB])
 by_cases h:0≤n
 ·(try simp (disch:=omega) only [go_sem,simprocAttr,zD,zE,h])
 ·(try simp (disch:=omega) only [go_sem,simprocAttr,zD,zE,h])
theorem turned_spec (x:Int × Int):Pure Tryz.prog 121 [.agg [sci .i64 x.1,sci .i64 x.2]] (.agg [sci .i64 x.2,sci .i64 x.1]):=by
 refine pcall0 200 (fn:=Tryz.f121) Tryz.func121 rfl (by simp [Tryz.ntmps121]) zB zB fun hs=>?_
 ((try refine zW ?_);(try with_reducible exact True.intro))
def indexL (a:Int):Nat→List Int→Int
 | _, []=> -1
 | i,x::r=>if a=x then i else indexL a (i+1) r
theorem Index_spec (l:List Int) (a:Int):Pure Tryz.prog 78 [lI l,sci .i64 a] (sci .i64 (indexL a 0 l)):=by
 refine pcall0 200 (fn:=Tryz.f78) Tryz.func78 rfl (by simp [Tryz.ntmps78]) zB zB fun hs=>?_
 simp only [go_sem,simprocAttr,maxLen] at hs
 ((try refine zO ?_);(try with_reducible exact True.intro))
 refine walk_floop 200 200 (fun i:Nat=>i≤l.length∧indexL a i (l.drop i)=indexL a 0 l)
  (fun i=>⟨19, [(0,lI l),(1,sci .i64 a),(7,sci .i64 l.length),(8,sci .i64 i)], [],0, []⟩) (fun i=>l.length - i) (0) [] ?_ ?_ ?_
 ·simp
 ·constructor<;>(try simp (disch:=omega) only [go_sem,simprocAttr,zD,zE,Int.natCast_zero,List.take_of_length_le,List.append_assoc])
 ·rintro i hi
  obtain⟨hi,hinvi⟩:=hi
  ((try refine zW ?_);(try with_reducible exact True.intro))
  by_cases li:i < l.length
  ·rw [drop_cons li,indexL] at hinvi
   by_cases e:a=l[i]
   ·rw [if_pos e] at hinvi
    (try simp (disch:=omega) only [go_sem,simprocAttr,zD,zE,eI,←e,←hinvi])
   ·rw [if_neg e] at hinvi
    (try simp (disch:=omega) only [go_sem,simprocAttr,zD,zE,eI,e])
    refine⟨i+1, [],⟨by first | assumption | omega,hinvi⟩,?_,?_⟩
    ·(try simp only []);omega
    ·constructor<;>(try simp (disch:=omega) only [go_sem,simprocAttr,zD,zE,List.append_assoc])
  ·obtain rfl:i=l.length:=by omega
   rw [List.drop_length] at hinvi
   (try simp (disch:=omega) only [go_sem,simprocAttr,zD,zE,←hinvi,indexL])
theorem indexL_mem {a:Int}: ∀ {l:List Int} {i:Nat},0≤indexL a i l↔a∈l
 | [],i=>by simp [indexL]
 | x::r,i=>by
   unfold indexL
   split
   ·rename_i e;simp [e]
   ·rename_i e;rw [indexL_mem,List.mem_cons];simp [e]
theorem Contains_spec (l:List Int) (a:Int):Pure Tryz.prog 122 [lI l,sci .i64 a] (scb (decide (a∈l))):=by
 refine pcall0 200 (fn:=Tryz.f122) Tryz.func122 rfl (by simp [Tryz.ntmps122]) zB zB fun hs=>?_
 ((try refine zW ?_);(try with_reducible exact True.intro))
 (refine at_call 200 ?_;(refine zW ?_;try with_reducible exact True.intro);refine callA_of (Index_spec _ _) zB ?_;((try refine zW ?_);(try with_reducible exact True.intro)))
 have e:=indexL_mem (a:=a) (l:=l) (i:=0)
 (try simp (disch:=omega) only [go_sem,simprocAttr,zD,zE,e])
theorem of0_spec (N n:Int) (ls:List (Int × Int)) (hl:ls.length≤1000000):Pure Tryz.prog 98 [eG N ls,sci .i64 n,sci .i64 0] (lI (outs n 0 ls)):=by
 refine pcall0 200 (fn:=Tryz.f98) Tryz.func98 rfl (by simp [Tryz.ntmps98]) zB zB fun hs=>?_
 ((try refine zW ?_);(try with_reducible exact True.intro))
 refine walk_own 7 1 trivial rfl (.inr rfl) ?_
 (refine walk_trim [1,2,7,11,12,13] trivial zL ?_;((try refine zW ?_);(try with_reducible exact True.intro)))
 refine walk_floop 200 200 (fun i:Nat × Nat × List Int=>i.1≤ls.length∧i.2.2.length≤i.1∧i.2.2++outs n i.1 (ls.drop i.1)=outs n 0 ls)
  (fun i=>⟨29, [(1,sci .i64 n),(2,sci .i64 0),(7, .ref 1 i.2.1 0 i.2.2.length),(11,lII ls),(12,sci .i64 ls.length),(13,sci .i64 i.1)], [],2,
   [(1, .arr 1 i.2.1 (ir eI i.2.2))]⟩) (fun i=>ls.length - i.1) (0,0, []) [] ?_ ?_ ?_
 ·simp
 ·constructor<;>(try simp (disch:=omega) only [go_sem,simprocAttr,zD,zE,Int.natCast_zero])
 ·rintro⟨i,g,acc⟩ ⟨h1,h2,h3⟩
  simp only at h1 h2 h3
  ((try refine zW ?_);(try with_reducible exact True.intro))
  by_cases hi:i < ls.length
  ·rw [drop_cons hi] at h3
   (try simp (disch:=omega) only [go_sem,simprocAttr,zD,zE,eII])
   by_cases hc:ls[i].1=n
   ·(try simp (disch:=omega) only [go_sem,simprocAttr,zD,zE,hc])
    refine⟨(i+1,g+1,acc++ [(i:Int)]), [],⟨hi,by simp;omega,by simpa [outs,hc] using h3⟩,by simp only;omega,?_⟩
    constructor<;>((try refine zO ?_);(try with_reducible exact True.intro))
   ·(try simp (disch:=omega) only [go_sem,simprocAttr,zD,zE,hc])
    refine⟨(i+1,g,acc), [],⟨hi,by simp only;omega,by simpa [outs,hc] using h3⟩,by simp only;omega,?_⟩
    constructor<;>((try refine zO ?_);(try with_reducible exact True.intro))
  ·obtain rfl:i=ls.length:=by omega
   rw [List.drop_length] at h3
   (try simp (disch:=omega) only [go_sem,simprocAttr,zD,zE,←h3,outs])
theorem Out_spec (N n:Int) (ls:List (Int × Int)) (hl:ls.length≤1000000):Pure Tryz.prog 53 [eG N ls,sci .i64 n] (lI (outs n 0 ls)):=by
 refine pcall0 200 (fn:=Tryz.f53) Tryz.func53 rfl (by simp [Tryz.ntmps53]) zB zB fun hs=>?_
 ((try refine zW ?_);(try with_reducible exact True.intro))
 (refine at_call 200 ?_;(refine zW ?_;try with_reducible exact True.intro);refine callA_of (of0_spec _ _ _ hl) zB ?_;((try refine zW ?_);(try with_reducible exact True.intro)))
 ((try refine zW ?_);(try with_reducible exact True.intro))
theorem Find_spec (N a b:Int) (ls:List (Int × Int)) (hl:ls.length≤1000000):Pure Tryz.prog 77 [eG N ls,sci .i64 a,sci .i64 b] (sci .i64 (findL a b 0 ls)):=by
 refine pcall0 200 (fn:=Tryz.f77) Tryz.func77 rfl (by simp [Tryz.ntmps77]) zB zB fun hs=>?_
 ((try refine zW ?_);(try with_reducible exact True.intro))
 (refine walk_trim [7,14,15,16] trivial zL ?_;((try refine zW ?_);(try with_reducible exact True.intro)))
 refine walk_floop 200 200 (fun i:Nat=>i≤ls.length∧findL a b i (ls.drop i)=findL a b 0 ls)
  (fun i=>⟨26, [(7, .ptr 1 0 0 0),(14,lII ls),(15,sci .i64 ls.length),(16,sci .i64 i)], [],2, [(1, .arr 2 0 [[sci .i64 a,sci .i64 b]])]⟩) (fun i=>ls.length - i) (0) [] ?_ ?_ ?_
 ·simp
 ·constructor<;>(try simp (disch:=omega) only [go_sem,simprocAttr,zD,zE,Int.natCast_zero,List.take_of_length_le,List.append_assoc])
 ·rintro i hi
  obtain⟨hi,hinvi⟩:=hi
  ((try refine zW ?_);(try with_reducible exact True.intro))
  by_cases li:i < ls.length
  ·rw [drop_cons li,findL] at hinvi
   (try simp (disch:=omega) only [go_sem,simprocAttr,zD,zE,eII])
   by_cases e1:ls[i].1=a
   ·by_cases e2:ls[i].2=b
    ·rw [if_pos ⟨e1,e2⟩] at hinvi
     (try simp (disch:=omega) only [go_sem,simprocAttr,zD,zE,e1,e2,←hinvi])
    ·rw [if_neg (fun h=>e2 h.2)] at hinvi
     (try simp (disch:=omega) only [go_sem,simprocAttr,zD,zE,e1,e2])
     refine⟨i+1, [],⟨by first | assumption | omega,hinvi⟩,?_,?_⟩
     ·(try simp only []);omega
     ·constructor<;>(try simp (disch:=omega) only [go_sem,simprocAttr,zD,zE,List.append_assoc])
   ·rw [if_neg (fun h=>e1 h.1)] at hinvi
    (try simp (disch:=omega) only [go_sem,simprocAttr,zD,zE,e1])
    refine⟨i+1, [],⟨by first | assumption | omega,hinvi⟩,?_,?_⟩
    ·(try simp only []);omega
    ·constructor<;>(try simp (disch:=omega) only [go_sem,simprocAttr,zD,zE,List.append_assoc])
  ·obtain rfl:i=ls.length:=by omega
   rw [List.drop_length] at hinvi
   (try simp (disch:=omega) only [go_sem,simprocAttr,zD,zE,←hinvi,findL])
theorem Repeat_new (N:Nat) (h1:1≤N) (h6:N≤6):PNew Tryz.prog 140 [lI [-1],sci .i64 N] (.ref 0 0 0 N) (.arr 1 0 (ir eI (List.replicate N (-1)))):=by
 obtain rfl | rfl | rfl | rfl | rfl | rfl:N=1∨N=2∨N=3∨N=4∨N=5∨N=6:=by omega
 all_goals exact xnew0 1000 (fun _=>false) 1 (by kernel_rfl) (by kernel_rfl) (by kernel_rfl) (by kernel_rfl) (by simp [blkBel,ir,eI,List.replicate,bels,bel,sci]) (by kernel_rfl)
end Go.Proofs.GY
