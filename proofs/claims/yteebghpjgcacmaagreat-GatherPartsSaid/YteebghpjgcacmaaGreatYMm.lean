/- Of what is built of pieces each state is its piece's, and the rest: the law's walk. -/
import Derived.Test.YteebghpjgcacmaaGreatYMl
import Derived.Test.YteebghpjgcacmaaGreatYMi
import Derived.Test.YteebghpjgcacmaaGreatYMe
import Derived.Test.YteebghpjgcacmaaGreatYWd
set_option linter.unusedSimpArgs false
set_option linter.unusedVariables false
namespace Go.Proofs.GY
open Go Go.Idl Go.Proofs Go.GP
set_option maxHeartbeats 20000000
set_option maxRecDepth 100000
theorem Parts_pure (s0:Sc) (l0:List Pc):Pure Tryz.prog 4 [lApp s0,lPs l0] (scb true):=by
 obtain⟨h8,hl,ho⟩:=ok_cut s0
 have cl:=Cut_spec l0
 have gl:=cutPs_g l0
 have nl:=cutPs_le l0
 rw [show(l0.take 8).map cutPc=cutPs l0 from rfl] at cl
 generalize cutPs l0=l at *
 refine pcall0 200 (fn:=Tryz.f4) Tryz.func4 rfl (by simp [Tryz.ntmps4]) zB zB fun hs=>?_
 ((try refine zW ?_);(try with_reducible exact True.intro))
 (refine at_call 200 ?_;(refine zW ?_;try with_reducible exact True.intro);refine callA_of (L5Cut_spec s0) zB ?_;((try refine zW ?_);(try with_reducible exact True.intro)))
 generalize cutSc s0=s at *
 have hT:=small_ok h8 ho
 obtain⟨N,ls,T,ff,room,acts⟩:=s
 simp only at h8 hl ho hT
 ((try refine zO ?_);(try with_reducible exact True.intro))
 (refine at_call 200 ?_;(refine zW ?_;try with_reducible exact True.intro);refine callA_of (cl) zB ?_;((try refine zW ?_);(try with_reducible exact True.intro)))
 ((try refine zO ?_);(try with_reducible exact True.intro))
 (refine at_call 200 ?_;(refine zW ?_;try with_reducible exact True.intro);refine callA_of (L5App_spec ⟨N,ls,T,ff,room,acts⟩ h8 ho) zB ?_;((try refine zW ?_);(try with_reducible exact True.intro)))
 ((try refine zO ?_);(try with_reducible exact True.intro))
 (refine at_call 200 ?_;(refine zW ?_;try with_reducible exact True.intro);refine callA_of (R4Right_spec N ls T hT) zB ?_;((try refine zW ?_);(try with_reducible exact True.intro)))
 by_cases hR:TabP N ls T
 rotate_left
 ·have e2:=tB_neg hR
  (try simp (maxSteps:=2000000) (disch:=omega) only [go_sem,simprocAttr,zD,zE,e2])
  (refine at_call 200 ?_;(refine zW ?_;try with_reducible exact True.intro);refine callA_of (fixed_spec) zB ?_;((try refine zW ?_);(try with_reducible exact True.intro)))
 have e2:=tB_pos hR
 (try simp (maxSteps:=2000000) (disch:=omega) only [go_sem,simprocAttr,zD,zE,e2])
 (refine at_call 200 ?_;(refine zW ?_;try with_reducible exact True.intro);refine callA_of (Build_spec ⟨N,ls,T,ff,room,acts⟩ l true hl hT gl) zB ?_;((try refine zW ?_);(try with_reducible exact True.intro)))
 (try simp only)
 by_cases hB:BldP N ls T l true
 rotate_left
 ·have eB:bldB N ls T l true=(([], [], []),4):=by rw [bldB,tB_neg hB];rfl
  rw [eB]
  ((try refine zO ?_);(try with_reducible exact True.intro))
  (refine at_call 200 ?_;(refine zW ?_;try with_reducible exact True.intro);refine callA_of (fixed_spec) zB ?_;((try refine zW ?_);(try with_reducible exact True.intro)))
 have eB:bldB N ls T l true=((bldS l,bldL ls l true,bldE ls l),0):=by rw [bldB,tB_pos hB];rfl
 rw [eB]
 obtain⟨hW,hK,hC⟩:=hB
 have hK:=hK rfl
 obtain⟨S,hS⟩: ∃S,S=bldS l:=⟨_,rfl⟩
 obtain⟨L,hL⟩: ∃L,L=bldL ls l true:=⟨_,rfl⟩
 obtain⟨E,hE⟩: ∃E,E=bldE ls l:=⟨_,rfl⟩
 have hSl:S.length=l.length:=by rw [hS,bldS,List.length_map]
 have hLl:L.length=ls.length:=by rw [hL,bldL,List.length_map,List.length_range]
 have hEl:E.length=ls.length:=by rw [hE,bldE,List.length_map,List.length_range]
 have hSs: ∀(i:Nat) (li:i < l.length),S[i]'(by omega)=l[i].state:=fun i li=>by simp only [hS,bldS,List.getElem_map]
 have hLs: ∀(i:Nat) (li:i < ls.length),L[i]'(by omega)=lkM ls l true i:=fun i li=>by simp only [hL,bldL,List.getElem_map,List.getElem_range]
 have hEs: ∀(i:Nat) (li:i < ls.length),E[i]'(by omega)=lkE ls l i:=fun i li=>by simp only [hE,bldE,List.getElem_map,List.getElem_range]
 have hMl: ∀(i:Nat) (li:i < ls.length),(L[i]'(by omega)).length≤1000∧((L[i]'(by omega)).length:Int)+(lkG ls l i).length=E[i]'(by omega):=fun i li=>by
  obtain⟨a,b,o,j,p,q,hf⟩:=link_f hW li
  obtain⟨k1,k2,k3⟩:=hK i li
  have hr:RisP 0 (lkG ls l i):=by
   rw [hf.G]
   obtain⟨-, -,hQ⟩:=hf.hQ
   obtain⟨-, -, -, -, -, -,hI, -⟩:=hQ
   exact hI j _ hf.hjl (List.getElem?_eq_getElem hf.hjl)
  have h1:=rest_len (ris_keys hr).2 k3
  have h2:(lkS ls l i).length≤500:=by
   rw [hf.P,hf.O] at k1
   rw [hf.S k1]
   obtain⟨-, -,hP⟩:=hf.hP
   obtain⟨-, -, -, -, -, -, -,hO⟩:=hP
   exact(hO o _ k1 (List.getElem?_eq_getElem k1)).1
  rw [hLs i li,hEs i li,←k2]
  show(restL (lkS ls l i) (lkG ls l i)).length≤1000∧((restL (lkS ls l i) (lkG ls l i)).length:Int)+(lkG ls l i).length=(lkS ls l i).length
  omega
 have hMn: ∀(i:Nat) (li:i < ls.length) (m:Int × Int),m∈lkG ls l i→idxM m.1 0 (L[i]'(by omega)) < 0:=fun i li m hm=>by
  rw [hLs i li]
  exact rest_not hm
 have hLL: ∀x∈L,x.length≤1000000:=fun x hx=>by
  obtain⟨i,hi,rfl⟩:=List.getElem_of_mem hx
  have:=(hMl i (by omega)).1
  omega
 rw [←hS,←hL,←hE] at hC ⊢
 clear hS hL hE eB hK
 have eC:=tB_pos hC
 have hNl:(l.length:Int)=N:=hW.2.1
 have hN6:N≤6:=hR.1.2.1
 have hl30:ls.length≤30:=hR.1.2.2.1
 ((try refine zO ?_);(try with_reducible exact True.intro))
 (refine walk_trim [1,2,5,6] trivial zL ?_;(refine zW ?_;try with_reducible exact True.intro);refine irun_walk (id:=9) (n:=200) [none,none,some [],none,none,none,none,none,none,none,none,none,none,none,none,some [13],some [],none,none] mixed (by kernel_rfl) ?_)
 ((try refine zO ?_);(try with_reducible exact True.intro))
 (refine at_dcall ?_;(refine zW ?_;try with_reducible exact True.intro);refine callA_of (PRight_spec N ls T ff S L E hT hl) zB ?_;((try refine zW ?_);(try with_reducible exact True.intro)))
 (try simp (maxSteps:=2000000) (disch:=omega) only [go_sem,simprocAttr,zD,zE,eC,hSl])
 (refine at_dcall ?_;(refine zW ?_;try with_reducible exact True.intro);refine callA_of (L5Ref_spec S L E) zB ?_;((try refine zW ?_);(try with_reducible exact True.intro)))
 ((try refine zO ?_);(try with_reducible exact True.intro))
 (refine at_dcall ?_;(refine zW ?_;try with_reducible exact True.intro);refine callA_of (R5Right_spec N ls T ff S L E hT hl hLL) zB ?_;((try refine zW ?_);(try with_reducible exact True.intro)))
 (try simp (maxSteps:=2000000) (disch:=omega) only [go_sem,simprocAttr,zD,zE,eC])
 (refine walk_trim [1,5,6,8] trivial zL ?_;((try refine zW ?_);(try with_reducible exact True.intro)))
 refine walk_floop 200 200 (fun n:Nat=>n≤l.length)
  (fun n=>⟨205, [(1,lPs l),(5, .ptr 1 0 0 0),(6, .ptr 2 0 0 0),(8,sci .i64 n)], [],3, [(2, .arr 3 0 [[lI S,lMs L,lI E]]),(1, .arr 4 0 [[sci .i64 N,lII ls, .p (.imm 2 (pr eNd T)),scb ff]])]⟩) (fun n=>l.length - n) (0) [] ?_ ?_ ?_
 ·simp
 ·constructor<;>(try simp (maxSteps:=2000000) (disch:=omega) only [go_sem,simprocAttr,zD,zE,Int.natCast_zero,List.take_of_length_le,List.append_assoc])
 ·rintro n hn
  ((try refine zW ?_);(try with_reducible exact True.intro))
  by_cases ln:n < l.length
  ·have hPn:=hW.2.2 n _ (List.getElem?_eq_getElem ln)
   have ok1:=fun(k:Nat) (hk:k < (outs n 0 ls).length)=>lkE_out hW ln hk
   have ok2:=fun(k:Nat) (hk:k < (ins n 0 ls).length)=>lkG_in hW ln hk
   have hSn:=hSs n ln
   have gp:=gl _ (List.getElem_mem ln)
   generalize hp:l[n]=p at *
   obtain⟨pn,ps,pt,pse,pi,po⟩:=p
   obtain⟨-, -, -,g1,g2⟩:=hPn
   simp only at g1 g2 hSn
   have gi0:pi.length≤1000000:=gp.inn
   have gs0:pse.length≤1000000:=gp.sent
   have gi: ∀(k:Nat) (hk:k < pi.length),pi[k].length≤1000000:=fun k hk=>gp.inns _ (List.getElem_mem hk)
   ((try refine zO ?_);(try with_reducible exact True.intro))
   (refine walk_trim [1,5,6,8] trivial zL ?_;(refine zW ?_;try with_reducible exact True.intro);refine irun_walk (id:=14) (n:=200) [none,none,none,some [4,5,6],none,none,none,some [],none,none] mixed (by kernel_rfl) ?_)
   ((try refine zO ?_);(try with_reducible exact True.intro))
   (refine at_dcall ?_;(refine zW ?_;try with_reducible exact True.intro);refine callA_of (R3Out_spec N n ls hl) zB ?_;((try refine zW ?_);(try with_reducible exact True.intro)))
   ((try refine zO ?_);(try with_reducible exact True.intro))
   (refine at_dcall ?_;(refine zW ?_;try with_reducible exact True.intro);refine callA_of (R3In_spec N n ls hl) zB ?_;((try refine zW ?_);(try with_reducible exact True.intro)))
   ((try refine zO ?_);(try with_reducible exact True.intro))
   generalize outs n 0 ls=O at *
   generalize ins n 0 ls=I at *
   have hSb:(ps != ps)=false:=bne_self_eq_false ps
   have g1':((O.length:Int) != O.length)=false:=bne_self_eq_false _
   have g2':((I.length:Int) != I.length)=false:=bne_self_eq_false _
   (refine walk_trim [1,5,6,8,9,10] trivial zL ?_;(refine zW ?_;try with_reducible exact True.intro);refine irun_walk (id:=15) (n:=200) [none,none,none,none,none,none,none,none,none,none,none,none,none,none,none,none,none,none,none,none,none,none,none,none,none,none,none,none,none,none,none,none,none] mixed (by kernel_rfl) ?_)
   (try simp (maxSteps:=2000000) (disch:=omega) only [go_sem,simprocAttr,zD,zE,eI,ePc,hp,hSn,hSb,g1,g1',g2,g2'])
   (refine walk_trim [1,5,6,8,9,10,11] trivial zL ?_;((try refine zW ?_);(try with_reducible exact True.intro)))
   refine walk_floop 200 200 (fun k:Nat=>k≤O.length)
    (fun k=>⟨205, [(1,lPs l),(5, .ptr 1 0 0 0),(6, .ptr 2 0 0 0),(8,sci .i64 n),(9,lI O),(10,lI I),(11,sci .i64 k)], [],3, [(2, .arr 3 0 [[lI S,lMs L,lI E]]),(1, .arr 4 0 [[sci .i64 N,lII ls, .p (.imm 2 (pr eNd T)),scb ff]])]⟩) (fun k=>O.length - k) (0) [] ?_ ?_ ?_
   ·simp
   ·constructor<;>(try simp (maxSteps:=2000000) (disch:=omega) only [go_sem,simprocAttr,zD,zE,Int.natCast_zero,List.take_of_length_le,List.append_assoc])
   ·rintro k hk
    ((try refine zW ?_);(try with_reducible exact True.intro))
    by_cases lk:k < O.length
    ·obtain⟨i,hi,e,hE⟩:=ok1 k lk
     have lse:k < pse.length:=by omega
     rw [←hEs i hi] at hE
     have hEq:E[i]=pse[k]:=by
      have h2:pse[k]? =some E[i]:=hE
      rw [List.getElem?_eq_getElem lse] at h2
      exact(Option.some.inj h2).symm
     have hb:(pse[k] != pse[k])=false:=bne_self_eq_false _
     ((try refine zO ?_);(try with_reducible exact True.intro))
     (refine walk_trim [1,5,6,8,9,10,11] trivial zL ?_;(refine zW ?_;try with_reducible exact True.intro);refine irun_walk (id:=20) (n:=200) [none,none,none,none,none,none,none,none,none,none,none,none,none,none,none,none,none] mixed (by kernel_rfl) ?_)
     (try simp (maxSteps:=2000000) (disch:=omega) only [go_sem,simprocAttr,zD,zE,eI,ePc,hp,e,hEq,hb])
     refine⟨k+1, [],by first | assumption | omega,?_,?_⟩
     ·(try simp only []);omega
     ·constructor<;>(try simp (maxSteps:=2000000) (disch:=omega) only [go_sem,simprocAttr,zD,zE,List.append_assoc])
    ·obtain rfl:k=O.length:=by omega
     ((try refine zO ?_);(try with_reducible exact True.intro))
     (refine walk_trim [1,5,6,8,10,12] trivial zL ?_;((try refine zW ?_);(try with_reducible exact True.intro)))
     refine walk_floop 200 200 (fun k:Nat=>k≤I.length)
      (fun k=>⟨205, [(1,lPs l),(5, .ptr 1 0 0 0),(6, .ptr 2 0 0 0),(8,sci .i64 n),(10,lI I),(12,sci .i64 k)], [],3, [(2, .arr 3 0 [[lI S,lMs L,lI E]]),(1, .arr 4 0 [[sci .i64 N,lII ls, .p (.imm 2 (pr eNd T)),scb ff]])]⟩) (fun k=>I.length - k) (0) [] ?_ ?_ ?_
     ·simp
     ·constructor<;>(try simp (maxSteps:=2000000) (disch:=omega) only [go_sem,simprocAttr,zD,zE,Int.natCast_zero,List.take_of_length_le,List.append_assoc])
     ·rintro k hk
      ((try refine zW ?_);(try with_reducible exact True.intro))
      by_cases lk:k < I.length
      ·obtain⟨i,hi,e,hG⟩:=ok2 k lk
       have lse:k < pi.length:=by omega
       obtain⟨m1,m2⟩:=hMl i hi
       have m3:=hMn i hi
       have hG:lkG ls l i=pi[k]:=by
        have h2:pi[k]? =some (lkG ls l i):=hG
        rw [List.getElem?_eq_getElem lse] at h2
        exact(Option.some.inj h2).symm
       rw [hG] at m2 m3
       have hpk:=gi k lse
       have lL:i < L.length:=by omega
       have lE:i < E.length:=by omega
       generalize hk2:pi[k]=q at *
       generalize hLi:L[i]=M at *
       generalize hEi:E[i]=t at *
       subst m2
       have hb:(((M.length:Int)+q.length) != ((M.length:Int)+q.length))=false:=bne_self_eq_false _
       ((try refine zO ?_);(try with_reducible exact True.intro))
       (refine walk_trim [1,5,6,8,10,12] trivial zL ?_;(refine zW ?_;try with_reducible exact True.intro);refine irun_walk (id:=25) (n:=200) [none,none,none,none,none,none,none,none,none,none,none,none,none,none,none,none,none,none,none,none,none,none,none,none,none,none,none,none] mixed (by kernel_rfl) ?_)
       (try simp (maxSteps:=2000000) (disch:=omega) only [go_sem,simprocAttr,zD,zE,eI,ePc,eMs,hp,e,hk2,hLi,hEi,hb])
       (refine walk_trim [1,5,6,8,10,12,13] trivial zL ?_;((try refine zW ?_);(try with_reducible exact True.intro)))
       refine walk_floop 200 200 (fun j:Nat=>j≤q.length)
        (fun j=>⟨205, [(1,lPs l),(5, .ptr 1 0 0 0),(6, .ptr 2 0 0 0),(8,sci .i64 n),(10,lI I),(12,sci .i64 k),(13,sci .i64 j)], [],3, [(2, .arr 3 0 [[lI S,lMs L,lI E]]),(1, .arr 4 0 [[sci .i64 N,lII ls, .p (.imm 2 (pr eNd T)),scb ff]])]⟩) (fun j=>q.length - j) (0) [] ?_ ?_ ?_
       ·simp
       ·constructor<;>(try simp (maxSteps:=2000000) (disch:=omega) only [go_sem,simprocAttr,zD,zE,Int.natCast_zero,List.take_of_length_le,List.append_assoc])
       ·rintro j hj
        ((try refine zW ?_);(try with_reducible exact True.intro))
        by_cases lj:j < q.length
        ·have hm:=m3 _ (List.getElem_mem lj)
         generalize hqj:q[j]=x at *
         obtain⟨x1,x2⟩:=x
         simp only at hm
         have hm': ¬0≤idxM x1 0 M:=by omega
         (try simp (maxSteps:=2000000) (disch:=omega) only [go_sem,simprocAttr,zD,zE,eI,ePc,eMs,hp,hk2])
         (refine walk_trim [1,5,6,8,10,12,13] trivial zL ?_;(refine zW ?_;try with_reducible exact True.intro);refine irun_walk (id:=30) (n:=200) [none,none,none,none,none,none,none,none,none,none,none,none,none,none,none,none,none,none,none,none,some [],none] mixed (by kernel_rfl) ?_)
         (try simp (maxSteps:=2000000) (disch:=omega) only [go_sem,simprocAttr,zD,zE,eI,ePc,eMs,eII,hp,e,hk2,hLi,hqj])
         (refine at_dcall ?_;(refine zW ?_;try with_reducible exact True.intro);refine callA_of (R5Place_spec M x1) zB ?_;((try refine zW ?_);(try with_reducible exact True.intro)))
         (try simp (maxSteps:=2000000) (disch:=omega) only [go_sem,simprocAttr,zD,zE,hm'])
         refine⟨j+1, [],by first | assumption | omega,?_,?_⟩
         ·(try simp only []);omega
         ·constructor<;>(try simp (maxSteps:=2000000) (disch:=omega) only [go_sem,simprocAttr,zD,zE,List.append_assoc])
        ·obtain rfl:j=q.length:=by omega
         (try simp (maxSteps:=2000000) (disch:=omega) only [go_sem,simprocAttr,zD,zE,eI,ePc,eMs,hp,hk2])
         refine⟨k+1, [],by first | assumption | omega,?_,?_⟩
         ·(try simp only []);omega
         ·constructor<;>(try simp (maxSteps:=2000000) (disch:=omega) only [go_sem,simprocAttr,zD,zE,List.append_assoc])
      ·obtain rfl:k=I.length:=by omega
       ((try refine zO ?_);(try with_reducible exact True.intro))
       refine⟨n+1, [],by first | assumption | omega,?_,?_⟩
       ·(try simp only []);omega
       ·constructor<;>(try simp (maxSteps:=2000000) (disch:=omega) only [go_sem,simprocAttr,zD,zE,List.append_assoc])
  ·obtain rfl:n=l.length:=by omega
   ((try refine zO ?_);(try with_reducible exact True.intro))
   (refine at_call 200 ?_;(refine zW ?_;try with_reducible exact True.intro);refine callA_of (fixed_spec) zB ?_;((try refine zW ?_);(try with_reducible exact True.intro)))
end Go.Proofs.GY
