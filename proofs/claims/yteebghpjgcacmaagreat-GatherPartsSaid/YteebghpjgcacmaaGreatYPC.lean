/- Pieces compared, handed on, cut: many. -/
import Derived.Test.YteebghpjgcacmaaGreatYPB
set_option linter.unusedSimpArgs false
set_option linter.unusedVariables false
namespace Go.Proofs.GY
open Go Go.Idl Go.Proofs
set_option maxHeartbeats 20000000
set_option maxRecDepth 100000
def samePc (p q:Pc):Bool:=p.node==q.node && p.state==q.state && p.steps==q.steps && p.sent==q.sent && p.inn==q.inn && p.out==q.out
theorem samePc_iff {p q:Pc}:samePc p q=true↔p=q:=by
 unfold samePc
 simp only [Bool.and_eq_true,beq_iff_eq]
 constructor
 ·rintro⟨⟨⟨⟨⟨h1,h2⟩,h3⟩,h4⟩,h5⟩,h6⟩
  cases p;cases q;simp_all
 ·rintro rfl;simp
theorem Same_spec (p q:Pc):Pure Tryz.prog 50 [lPc p,lPc q] (scb (samePc p q)):=by
 generalize hres:samePc p q=res
 obtain⟨n1,s1,t1,se1,i1,o1⟩:=p
 obtain⟨n2,s2,t2,se2,i2,o2⟩:=q
 unfold samePc at hres
 simp only at hres
 refine pcall0 200 (fn:=Tryz.f50) Tryz.func50 rfl (by simp [Tryz.ntmps50]) zB zB fun hs=>?_
 simp (maxSteps:=2000000) only [go_sem,simprocAttr,maxLen] at hs
 ((try refine zW ?_);(try with_reducible exact True.intro))
 by_cases h1:n1=n2
 ·(try simp (maxSteps:=2000000) (disch:=omega) only [go_sem,simprocAttr,zD,zE,h1])
  by_cases h2:s1=s2
  ·(try simp (maxSteps:=2000000) (disch:=omega) only [go_sem,simprocAttr,zD,zE,h2])
   by_cases h3:t1=t2
   ·(try simp (maxSteps:=2000000) (disch:=omega) only [go_sem,simprocAttr,zD,zE,h3])
    (refine at_call 200 ?_;(refine zW ?_;try with_reducible exact True.intro);refine callA_of (Ints_spec _ _) zB ?_;((try refine zW ?_);(try with_reducible exact True.intro)))
    cases h4:se1==se2 with
    | false=>
      (try simp (maxSteps:=2000000) (disch:=omega) only [go_sem,simprocAttr,zD,zE,h4])
      rw [h4] at hres
      rw [←hres];simp
    | true=>
      (try simp (maxSteps:=2000000) (disch:=omega) only [go_sem,simprocAttr,zD,zE,h4])
      by_cases h5:i1.length=i2.length
      ·(try simp (maxSteps:=2000000) (disch:=omega) only [go_sem,simprocAttr,zD,zE,h5])
       by_cases h6:o1.length=o2.length
       ·(try simp (maxSteps:=2000000) (disch:=omega) only [go_sem,simprocAttr,zD,zE,h6])
        have hr:(i1==i2 && o1==o2)=res:=by rw [←hres,h1,h2,h3,h4];simp
        clear hres
        (refine walk_trim [2,3,5] trivial zL ?_;((try refine zW ?_);(try with_reducible exact True.intro)))
        refine walk_loop 200 200 (fun i:Nat=>i≤i1.length∧i1.take i=i2.take i) (fun i=>⟨90, [(2, .ptr 0 0 0 0),(3, .ptr 1 0 0 0),(5,sci .i64 i)], [],2,
         [(1, .arr 6 0 [[sci .i64 n2,sci .i64 s2,sci .i64 t2,lI se2,lMs i2,lLs o2]]),(0, .arr 6 0 [[sci .i64 n2,sci .i64 s2,sci .i64 t2,lI se1,lMs i1,lLs o1]])]⟩) (fun i=>i1.length - i) 0 ?_ ?_ ?_
        ·simp
        ·constructor<;>(try simp (maxSteps:=2000000) (disch:=omega) only [go_sem,simprocAttr,zD,zE,Int.natCast_zero,h1,h2,h3])
        ·rintro i ⟨hi,he⟩
         ((try refine zW ?_);(try with_reducible exact True.intro))
         by_cases hb:i < i1.length
         ·((try refine zO ?_);(try with_reducible exact True.intro))
          (refine walk_trim [2,3,5] trivial zL ?_;(refine zW ?_;try with_reducible exact True.intro);refine irun_walk (id:=6) (n:=200) [none,none,none,none,none,none,none,none,none,none,some [],none] mixed (by kernel_rfl) ?_)
          (try simp (maxSteps:=2000000) (disch:=omega) only [go_sem,simprocAttr,zD,zE,eMs])
          (refine at_dcall ?_;(refine zW ?_;try with_reducible exact True.intro);refine callA_of (Msgs_spec _ _) zB ?_;((try refine zW ?_);(try with_reducible exact True.intro)))
          by_cases hc:i1[i]=i2[i]
          ·(try simp (maxSteps:=2000000) (disch:=omega) only [go_sem,simprocAttr,zD,zE,hc])
           refine⟨i+1,⟨hb,?_⟩,by omega,?_⟩
           ·rw [List.take_succ_eq_append_getElem hb,List.take_succ_eq_append_getElem (by omega),he,hc]
           ·constructor<;>((try refine zW ?_);(try with_reducible exact True.intro))
          ·have hc2:(i1[i]==i2[i])=false:=by rw [beq_eq_false_iff_ne];exact hc
           (try simp (maxSteps:=2000000) (disch:=omega) only [go_sem,simprocAttr,zD,zE,hc2])
           rw [←hr]
           symm
           rw [Bool.and_eq_false_iff]
           left
           rw [beq_eq_false_iff_ne]
           rintro rfl
           exact hc rfl
         ·have hi2:i=i1.length:=by omega
          subst hi2
          rw [List.take_length,h5,List.take_length] at he
          subst he
          have hr2:(o1==o2)=res:=by rw [←hr];simp
          ((try refine zO ?_);(try with_reducible exact True.intro))
          (refine walk_trim [2,3,6] trivial zL ?_;((try refine zW ?_);(try with_reducible exact True.intro)))
          refine walk_loop 200 200 (fun j:Nat=>j≤o1.length∧o1.take j=o2.take j) (fun j=>⟨90, [(2, .ptr 0 0 0 0),(3, .ptr 1 0 0 0),(6,sci .i64 j)], [],2,
           [(1, .arr 6 0 [[sci .i64 n2,sci .i64 s2,sci .i64 t2,lI se2,lMs i1,lLs o2]]),(0, .arr 6 0 [[sci .i64 n2,sci .i64 s2,sci .i64 t2,lI se1,lMs i1,lLs o1]])]⟩) (fun j=>o1.length - j) 0 ?_ ?_ ?_
          ·simp
          ·constructor<;>(try simp (maxSteps:=2000000) (disch:=omega) only [go_sem,simprocAttr,zD,zE,Int.natCast_zero])
          ·rintro j ⟨hj,hf⟩
           ((try refine zW ?_);(try with_reducible exact True.intro))
           by_cases hb2:j < o1.length
           ·((try refine zO ?_);(try with_reducible exact True.intro))
            (refine walk_trim [2,3,6] trivial zL ?_;(refine zW ?_;try with_reducible exact True.intro);refine irun_walk (id:=11) (n:=200) [none,none,none,none,none,none,none,none,none,none,some [],none] mixed (by kernel_rfl) ?_)
            (try simp (maxSteps:=2000000) (disch:=omega) only [go_sem,simprocAttr,zD,zE,eLs])
            (refine at_dcall ?_;(refine zW ?_;try with_reducible exact True.intro);refine callA_of (Ints_spec _ _) zB ?_;((try refine zW ?_);(try with_reducible exact True.intro)))
            by_cases hc:o1[j]=o2[j]
            ·(try simp (maxSteps:=2000000) (disch:=omega) only [go_sem,simprocAttr,zD,zE,hc])
             refine⟨j+1,⟨hb2,?_⟩,by omega,?_⟩
             ·rw [List.take_succ_eq_append_getElem hb2,List.take_succ_eq_append_getElem (by omega),hf,hc]
             ·constructor<;>((try refine zW ?_);(try with_reducible exact True.intro))
            ·have hc2:(o1[j]==o2[j])=false:=by rw [beq_eq_false_iff_ne];exact hc
             (try simp (maxSteps:=2000000) (disch:=omega) only [go_sem,simprocAttr,zD,zE,hc2])
             rw [←hr2]
             symm
             rw [beq_eq_false_iff_ne]
             rintro rfl
             exact hc rfl
           ·have hj2:j=o1.length:=by omega
            subst hj2
            rw [List.take_length,h6,List.take_length] at hf
            subst hf
            ((try refine zO ?_);(try with_reducible exact True.intro))
            rw [←hr2];simp
       ·(try simp (maxSteps:=2000000) (disch:=omega) only [go_sem,simprocAttr,zD,zE,h6])
        rw [←hres]
        symm
        have:(o1==o2)=false:=by rw [beq_eq_false_iff_ne];rintro rfl;exact h6 rfl
        rw [this];simp
      ·(try simp (maxSteps:=2000000) (disch:=omega) only [go_sem,simprocAttr,zD,zE,h5])
       rw [←hres]
       symm
       have:(i1==i2)=false:=by rw [beq_eq_false_iff_ne];rintro rfl;exact h5 rfl
       rw [this];simp
   ·(try simp (maxSteps:=2000000) (disch:=omega) only [go_sem,simprocAttr,zD,zE,h3])
    rw [←hres]
    symm
    have:(t1==t2)=false:=by rw [beq_eq_false_iff_ne];exact h3
    rw [this];simp
  ·(try simp (maxSteps:=2000000) (disch:=omega) only [go_sem,simprocAttr,zD,zE,h2])
   rw [←hres]
   symm
   have:(s1==s2)=false:=by rw [beq_eq_false_iff_ne];exact h2
   rw [this];simp
 ·(try simp (maxSteps:=2000000) (disch:=omega) only [go_sem,simprocAttr,zD,zE,h1])
  rw [←hres]
  symm
  have:(n1==n2)=false:=by rw [beq_eq_false_iff_ne];exact h1
  rw [this];simp
def sameAll:List Pc→List Pc→Bool
 | [], []=>true
 | p::r,q::s=>samePc p q && sameAll r s
 | _,_=>false
theorem sameAll_iff: ∀ {a b:List Pc},sameAll a b=true↔a=b
 | [], []=>by simp [sameAll]
 | p::r,q::s=>by simp [sameAll,samePc_iff,sameAll_iff (a:=r) (b:=s)]
 | [],_::_=>by simp [sameAll]
 | _::_, []=>by simp [sameAll]
theorem All_spec (a b:List Pc):Pure Tryz.prog 13 [lPs a,lPs b] (scb (sameAll a b)):=by
 generalize hres:sameAll a b=res
 refine pcall0 200 (fn:=Tryz.f13) Tryz.func13 rfl (by simp [Tryz.ntmps13]) zB zB fun hs=>?_
 simp only [go_sem,simprocAttr,maxLen] at hs
 obtain⟨⟨ha, -⟩,hb, -⟩:=hs
 ((try refine zW ?_);(try with_reducible exact True.intro))
 by_cases hn:a.length=b.length
 ·(try simp (disch:=omega) only [go_sem,simprocAttr,zD,zE,hn])
  refine walk_loop 200 200 (fun i:Nat=>i≤a.length∧a.take i=b.take i) (fun i=>⟨27, [(0,lPs a),(1,lPs b),(5,sci .i64 i)], [],0, []⟩) (fun i=>a.length - i) 0 ?_ ?_ ?_
  ·simp
  ·constructor<;>(try simp only [go_sem,simprocAttr,Int.natCast_zero])
  ·rintro i ⟨hi,he⟩
   ((try refine zW ?_);(try with_reducible exact True.intro))
   by_cases hb:i < a.length
   ·((try refine zO ?_);(try with_reducible exact True.intro))
    (refine walk_trim [0,1,5] trivial zL ?_;(refine zW ?_;try with_reducible exact True.intro);refine irun_walk (id:=6) (n:=200) [none,none,none,none,none,none,none,none,some [],none] mixed (by kernel_rfl) ?_)
    (try simp (disch:=omega) only [go_sem,simprocAttr,zD,zE,ePc])
    (refine at_dcall ?_;(refine zW ?_;try with_reducible exact True.intro);refine callA_of (Same_spec a[i] b[i]) zB ?_;((try refine zW ?_);(try with_reducible exact True.intro)))
    by_cases hc:a[i]=b[i]
    ·have hc2:samePc a[i] b[i]=true:=samePc_iff.2 hc
     (try simp (disch:=omega) only [go_sem,simprocAttr,zD,zE,hc2])
     refine⟨i+1,⟨hb,?_⟩,by omega,?_⟩
     ·rw [List.take_succ_eq_append_getElem hb,List.take_succ_eq_append_getElem (by omega),he,hc]
     ·constructor<;>((try refine zW ?_);(try with_reducible exact True.intro))
    ·have hc2:samePc a[i] b[i]=false:=by rw [←Bool.not_eq_true];exact fun h=>hc (samePc_iff.1 h)
     (try simp (disch:=omega) only [go_sem,simprocAttr,zD,zE,hc2])
     rw [←hres]
     symm
     rw [←Bool.not_eq_true,sameAll_iff]
     rintro rfl
     exact hc rfl
   ·((try refine zO ?_);(try with_reducible exact True.intro))
    obtain rfl:i=a.length:=by omega
    rw [List.take_length,hn,List.take_length] at he
    rw [←hres]
    exact(sameAll_iff.2 he).symm
 ·(try simp (disch:=omega) only [go_sem,simprocAttr,zD,zE,hn])
  rw [←hres]
  symm
  rw [←Bool.not_eq_true,sameAll_iff]
  rintro rfl
  exact hn rfl
theorem Refs_spec (l:List Pc) (hn:l.length≤1000):Pure Tryz.prog 10 [lPs l] (lPs l):=by
 refine pcall0 200 (fn:=Tryz.f10) Tryz.func10 rfl (by simp [Tryz.ntmps10]) zB zB fun hs=>?_
 ((try refine zW ?_);(try with_reducible exact True.intro))
 refine walk_own 3 6 trivial rfl (.inl rfl) ?_
 (refine walk_trim [0,3,4] trivial zL ?_;((try refine zW ?_);(try with_reducible exact True.intro)))
 refine walk_floop 200 200 (fun i:Nat × Nat × List Pc=>i.1≤l.length∧i.2.2=l.take i.1)
  (fun i=>⟨21, [(0,lPs l),(3, .ref 0 i.2.1 0 i.2.2.length),(4,sci .i64 i.1)], [],1, [(0, .arr 6 i.2.1 (ir ePc i.2.2))]⟩) (fun i=>l.length - i.1) (0,0, []) [] ?_ ?_ ?_
 ·simp
 ·constructor<;>(try simp (disch:=omega) only [go_sem,simprocAttr,zD,zE,Int.natCast_zero])
 ·rintro⟨i,g,acc⟩ ⟨h1,h3⟩
  simp only at h1 h3
  have hal:acc.length=i:=by rw [h3];simp;omega
  ((try refine zW ?_);(try with_reducible exact True.intro))
  by_cases hl:i < l.length
  ·(try simp (disch:=omega) only [go_sem,simprocAttr,zD,zE,ePc])
   (refine at_call 200 ?_;(refine zW ?_;try with_reducible exact True.intro);refine callA_of (L6Ref_spec l[i]) zB ?_;((try refine zW ?_);(try with_reducible exact True.intro)))
   (try simp (disch:=omega) only [go_sem,simprocAttr,zD,zE,ePc])
   refine⟨(i+1,g+1,acc++ [l[i]]), [],⟨hl,?_⟩,?_,?_⟩
   ·simp only [h3]
    rw [List.take_succ_eq_append_getElem hl]
   ·simp only;omega
   ·constructor<;>(try simp (disch:=omega) only [go_sem,simprocAttr,zD,zE,ePc,ir_snoc,List.map_cons,List.map_nil])
  ·rw [List.take_of_length_le (by omega)] at h3
   (try simp (disch:=omega) only [go_sem,simprocAttr,zD,zE,h3])
theorem Cut_spec (l:List Pc):Pure Tryz.prog 8 [lPs l] (lPs ((l.take 8).map cutPc)):=by
 refine pcall0 200 (fn:=Tryz.f8) Tryz.func8 rfl (by simp [Tryz.ntmps8]) zB zB fun hs=>?_
 ((try refine zW ?_);(try with_reducible exact True.intro))
 refine walk_own 3 6 trivial rfl (.inl rfl) ?_
 (refine walk_trim [0,3,4] trivial zL ?_;((try refine zW ?_);(try with_reducible exact True.intro)))
 refine walk_floop 200 200 (fun i:Nat × Nat × List Pc=>i.1≤l.length∧i.1≤8∧i.2.2=(l.take i.1).map cutPc)
  (fun i=>⟨25, [(0,lPs l),(3, .ref 0 i.2.1 0 i.2.2.length),(4,sci .i64 i.1)], [],1, [(0, .arr 6 i.2.1 (ir ePc i.2.2))]⟩) (fun i=>8 - i.1) (0,0, []) [] ?_ ?_ ?_
 ·simp
 ·constructor<;>(try simp (disch:=omega) only [go_sem,simprocAttr,zD,zE,Int.natCast_zero])
 ·rintro⟨i,g,acc⟩ ⟨h1,h2,h3⟩
  simp only at h1 h2 h3
  have hal:acc.length=i:=by rw [h3];simp;omega
  ((try refine zW ?_);(try with_reducible exact True.intro))
  by_cases hlt:i < l.length∧i < 8
  ·obtain⟨hl,h8⟩:=hlt
   (try simp (disch:=omega) only [go_sem,simprocAttr,zD,zE,ePc])
   (refine at_call 200 ?_;(refine zW ?_;try with_reducible exact True.intro);refine callA_of (L6Cut_spec l[i]) zB ?_;((try refine zW ?_);(try with_reducible exact True.intro)))
   (try simp (disch:=omega) only [go_sem,simprocAttr,zD,zE,ePc])
   refine⟨(i+1,g+1,acc++ [cutPc l[i]]), [],⟨hl,h8,?_⟩,?_,?_⟩
   ·simp only [h3]
    rw [List.take_succ_eq_append_getElem hl,List.map_append,List.map_cons,List.map_nil]
   ·simp only;omega
   ·constructor<;>(try simp (disch:=omega) only [go_sem,simprocAttr,zD,zE,ePc,ir_snoc,List.map_cons,List.map_nil])
  ·have h10:l.take i=l.take 8:=by
    rcases Nat.lt_or_ge i 8 with h | h
    ·rw [List.take_of_length_le (by omega),List.take_of_length_le (by omega)]
    ·rw [show i=8 by omega]
   rw [h10] at h3
   rcases Nat.lt_or_ge i l.length with hl | hl
   all_goals
    (try simp (disch:=omega) only [go_sem,simprocAttr,zD,zE,←h3])
end Go.Proofs.GY
