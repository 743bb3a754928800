/- The document's answer: pieces put together. -/
import Derived.Test.YteebghpjgcacmaaGreatYMg
import Derived.Test.YteebghpjgcacmaaGreatYPL
set_option linter.unusedSimpArgs false
set_option linter.unusedVariables false
namespace Go.Proofs.GY
open Go Go.Idl Go.Proofs Go.GP
set_option maxHeartbeats 20000000
set_option maxRecDepth 100000
def ins1 (x:Pc):List Pc→Option (List Pc)
 | []=>some [x]
 | y::r=>if y.node≤x.node then(if y.node=x.node then none else(ins1 x r).map (y::·)) else some (x::y::r)
def insAll:List Pc→List Pc→Option (List Pc)
 | [],out=>some out
 | x::r,out=>match ins1 x out with
   | none=>none
   | some o=>insAll r o
def mD (a b:List Pc):List Pc × Int:=match insAll (a++b) [] with
 | none=>([],4)
 | some s=>(s,0)
theorem R13Merge_spec (a b:List Pc) (ha:a.length+b.length≤1000):Pure Tryz.prog 12 [lPs a,lPs b] (.tup [lPs (mD a b).1,sci .i64 (mD a b).2]):=by
 refine pcall0 200 (fn:=Tryz.f12) Tryz.func12 rfl (by simp [Tryz.ntmps12]) zB zB fun hs=>?_
 simp (maxSteps:=2000000) only [go_sem,simprocAttr,maxLen] at hs
 have t1:a.take a.length=a:=List.take_length
 (try simp (maxSteps:=2000000) (disch:=omega) only [go_sem,simprocAttr,zD,zE,t1])
 obtain⟨A,hA⟩: ∃A,A=a++b:=⟨_,rfl⟩
 have hAl:A.length=a.length+b.length:=by rw [hA,List.length_append]
 have hAt:A.take (a.length+b.length)=A:=List.take_of_length_le (by omega)
 obtain⟨res,hres⟩: ∃res,res=mD a b:=⟨_,rfl⟩
 have hres2:=hres
 rw [←hres]
 unfold mD at hres
 rw [←hA] at hres ⊢
 refine walk_fcut 200 [0] ⟨79, [(6,lPs A),(7,lPs []),(8,sci .i64 0)], [],1, []⟩ trivial ?_ ?_
 ·constructor<;>(try simp (maxSteps:=2000000) (disch:=omega) only [go_sem,simprocAttr,zD,zE,hAt])
 refine walk_floop 200 200 (fun z:Nat × List Pc=>z.1≤A.length∧z.2.length=z.1∧insAll (A.drop z.1) z.2=insAll A [])
  (fun z=>⟨79, [(6,lPs A),(7,lPs z.2),(8,sci .i64 z.1)], [],1, []⟩) (fun z=>A.length - z.1) (0, []) [] ?_ ?_ ?_
 ·simp
 ·constructor<;>(try simp (maxSteps:=2000000) (disch:=omega) only [go_sem,simprocAttr,zD,zE,Int.natCast_zero])
 ·rintro⟨i,out⟩ ⟨i1,i2,i3⟩
  simp only at i1 i2 i3
  ((try refine zO ?_);(try with_reducible exact True.intro))
  by_cases li:i < A.length
  ·rw [List.drop_eq_getElem_cons li,insAll] at i3
   generalize hx:A[i]=x at *
   have hex: ∀l:List Pc,ir ePc l++ [[.p (.sc (.int .i64 x.node)), .p (.sc (.int .i64 x.state)), .p (.sc (.int .i64 x.steps)), .p (.imm 1 (pr eI x.sent)), .p (.imm 1 (pr eMs x.inn)), .p (.imm 1 (pr eLs x.out))]]=ir ePc (l++ [x]):=fun l=>by rw [ir_snoc];rfl
   have hap: ∀l m:List Pc,ir ePc l++ir ePc m=ir ePc (l++m):=fun l m=>by simp [ir]
   ((try refine zO ?_);(try with_reducible exact True.intro))
   refine walk_own 9 6 trivial rfl (.inl rfl) ?_
   (refine walk_trim [6,7,8,9,10] trivial zL ?_;((try refine zW ?_);(try with_reducible exact True.intro)))
   refine walk_floop 200 200 (fun k:Nat=>k≤out.length∧ins1 x out=(ins1 x (out.drop k)).map (out.take k++·))
    (fun k=>⟨79, [(6,lPs A),(7,lPs out),(8,sci .i64 i),(9, .ref 1 k 0 k),(10,sci .i64 k)], [],2, [(1, .arr 6 k (ir ePc (out.take k)))]⟩) (fun k=>out.length - k) 0 [] ?_ ?_ ?_
   ·simp
   ·constructor<;>(try simp (maxSteps:=2000000) (disch:=omega) only [go_sem,simprocAttr,zD,zE,Int.natCast_zero,List.take_zero])
   ·rintro k ⟨k1,k2⟩
    ((try refine zW ?_);(try with_reducible exact True.intro))
    (refine walk_trim [6,7,8,9,10] trivial zL ?_;(refine zW ?_;try with_reducible exact True.intro);refine irun_walk (id:=9) (n:=200) [none,none,none,none,none,none,none,none,none,none,none,none,none,none,none,none,none] mixed (by kernel_rfl) ?_)
    by_cases lk:k < out.length
    ·rw [List.drop_eq_getElem_cons lk,ins1] at k2
     have hpt:out.take (k+1)=out.take k++ [out[k]]:=List.take_succ_eq_append_getElem lk
     have htt:(out.take k).length=k:=by rw [List.length_take];omega
     have hmm:min k (min k out.length)=k:=by omega
     have hti:(out.take k).take k=out.take k:=by rw [List.take_take,Nat.min_self]
     generalize hy:out[k]=y at *
     have hxy: ∀q:Pc,(ePc q)[0]? =some (.sc (.int .i64 q.node)):=fun q=>rfl
     (try simp (maxSteps:=2000000) (disch:=omega) only [go_sem,simprocAttr,zD,zE,ePc,hx,hy])
     by_cases h1:y.node≤x.node
     ·rw [if_pos h1] at k2
      (try simp (maxSteps:=2000000) (disch:=omega) only [go_sem,simprocAttr,zD,zE,h1])
      (refine walk_trim [6,7,8,9,10] trivial zL ?_;(refine zW ?_;try with_reducible exact True.intro);refine irun_walk (id:=11) (n:=200) [none,none,none,none,none,none,none,none,none,none,none] mixed (by kernel_rfl) ?_)
      (try simp (maxSteps:=2000000) (disch:=omega) only [go_sem,simprocAttr,zD,zE,ePc,hx,hy])
      by_cases h2:y.node=x.node
      ·rw [if_pos h2] at k2
       have h2':(y.node==x.node)=true:=beq_iff_eq.2 h2
       have hins:ins1 x out=none:=k2
       rw [hins] at i3
       simp only at i3
       rw [←i3] at hres
       (try simp (maxSteps:=2000000) (disch:=omega) only [go_sem,simprocAttr,zD,zE,h2',hres])
      ·rw [if_neg h2,Option.map_map] at k2
       have h2':(y.node==x.node)=false:=beq_eq_false_iff_ne.2 h2
       (try simp (maxSteps:=2000000) (disch:=omega) only [go_sem,simprocAttr,zD,zE,h2',ePc,hx,hy,hmm])
       refine⟨k+1, [],⟨lk,?_⟩,by omega,?_⟩
       ·rw [k2];congr 1;funext q;simp only [Function.comp,hpt,List.append_assoc,List.cons_append,List.nil_append]
       ·constructor<;>(try simp (maxSteps:=2000000) (disch:=omega) only [go_sem,simprocAttr,zD,zE,hpt,hti,hmm,ir_snoc,ePc,List.map_cons,List.map_nil])
     ·rw [if_neg h1] at k2
      have hins:ins1 x out=some (out.take k++ [x]++out.drop k):=by rw [k2,←hy,←List.drop_eq_getElem_cons lk];simp
      (try simp (maxSteps:=2000000) (disch:=omega) only [go_sem,simprocAttr,zD,zE,h1])
      have e3:insAll (A.drop (i+1)) (out.take k++ [x]++out.drop k)=insAll A []:=by rw [hins] at i3;exact i3
      have hol:(out.take k++ [x]++out.drop k).length=i+1:=by simp only [List.length_append,List.length_take,List.length_drop,List.length_cons,List.length_nil];omega
      have hmm:min k (min k out.length)=k:=by omega
      have hti:(out.take k).take k=out.take k:=by rw [List.take_take,Nat.min_self]
      have htd:(out.drop k).take (out.length - k)=out.drop k:=List.take_of_length_le (by rw [List.length_drop];omega)
      have hal:(out.take k++ [x]++out.drop k).take (k+1+(out.length - k))=out.take k++ [x]++out.drop k:=List.take_of_length_le (by omega)
      (try simp (maxSteps:=2000000) (disch:=omega) only [go_sem,simprocAttr,zD,zE,ePc,hx,hmm,hti,htd])
      have hk1:(out.take k++ [x]).take (min k out.length+1)=out.take k++ [x]:=List.take_of_length_le (by simp only [List.length_append,List.length_take,List.length_cons,List.length_nil];omega)
      have hk2:(out.take k++ [x]++out.drop k).take (min k out.length+(1+(out.length - k)))=out.take k++ [x]++out.drop k:=List.take_of_length_le (by omega)
      refine⟨(i+1,out.take k++ [x]++out.drop k), [1],⟨li,hol,e3⟩,by simp only;omega,?_⟩
      constructor<;>(try simp (maxSteps:=2000000) (disch:=omega) only [go_sem,simprocAttr,zD,zE,hex,hap,hk1,hk2])
    ·obtain rfl:k=out.length:=by omega
     have hins:ins1 x out=some (out.take out.length++ [x]++out.drop out.length):=by rw [k2,List.drop_length];simp [ins1]
     ((try refine zO ?_);(try with_reducible exact True.intro))
     have e3:insAll (A.drop (i+1)) (out.take out.length++ [x]++out.drop out.length)=insAll A []:=by rw [hins] at i3;exact i3
     have hol:(out.take out.length++ [x]++out.drop out.length).length=i+1:=by simp only [List.length_append,List.length_take,List.length_drop,List.length_cons,List.length_nil];omega
     have hmm:min out.length (min out.length out.length)=out.length:=by omega
     have hti:(out.take out.length).take out.length=out.take out.length:=by rw [List.take_take,Nat.min_self]
     have htd:(out.drop out.length).take (out.length - out.length)=out.drop out.length:=List.take_of_length_le (by rw [List.length_drop];omega)
     have hal:(out.take out.length++ [x]++out.drop out.length).take (out.length+1+(out.length - out.length))=out.take out.length++ [x]++out.drop out.length:=List.take_of_length_le (by omega)
     (try simp (maxSteps:=2000000) (disch:=omega) only [go_sem,simprocAttr,zD,zE,ePc,hx,hmm,hti,htd])
     have hk1:(out++ [x]).take (out.length+1)=out++ [x]:=List.take_of_length_le (by simp)
     refine⟨(i+1,out.take out.length++ [x]++out.drop out.length), [1],⟨li,hol,e3⟩,by simp only;omega,?_⟩
     constructor<;>(try simp (maxSteps:=2000000) (disch:=omega) only [go_sem,simprocAttr,zD,zE,hex,hap,hk1])
  ·obtain rfl:i=A.length:=by omega
   rw [List.drop_length,insAll] at i3
   rw [←i3] at hres
   (try simp (maxSteps:=2000000) (disch:=omega) only [go_sem,simprocAttr,zD,zE,hres])
end Go.Proofs.GY
