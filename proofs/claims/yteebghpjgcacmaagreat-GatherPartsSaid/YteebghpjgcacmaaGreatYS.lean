/- Which graphs may be. -/
import Derived.Test.YteebghpjgcacmaaGreatYR
import Derived.Test.YteebghpjgcacmaaGreatGPm
import Derived.Test.YteebghpjgcacmaaGreatIdPd
set_option linter.unusedSimpArgs false
set_option linter.unusedVariables false
namespace Go.Proofs.GY
open Go Go.Idl Go.Proofs Go.GP
set_option maxHeartbeats 20000000
set_option maxRecDepth 100000
theorem pm:PairMap Tryz.prog 206:=⟨133,3,by kernel_rfl,by kernel_rfl,by kernel_rfl,by kernel_rfl⟩
def seenOk (N:Int) (l:List (Int × Int)) (x:Int × Int):Prop:=(0≤x.1∧x.1 < N)∧(0≤x.2∧x.2 < N)∧x.1≠x.2∧x ∉ l
theorem right_of {N:Int} {ls:List (Int × Int)} (h1:1≤N) (h6:N≤6) (hl:ls.length≤30) (hs: ∀(i:Nat) (x:Int × Int),ls[i]? =some x→seenOk N (ls.take i) x) (hb: ∀x∈ls,(x.2,x.1)∈ls):
  ∀(i:Nat) (x:Int × Int),ls[i]? =some x→LinkOk N ls i x:=by
 intro i x hx
 obtain⟨a,b,c,d⟩:=hs i x hx
 obtain⟨hi,rfl⟩:=List.getElem?_eq_some_iff.1 hx
 refine⟨a,b,c,?_,hb _ (List.getElem_mem hi)⟩
 have e:ls=ls.take i++ls.drop i:=(List.take_append_drop i ls).symm
 have hn: ¬0≤findL ls[i].1 ls[i].2 0 (ls.take i):=fun q=>d (findL_mem.1 q)
 have:findL ls[i].1 ls[i].2 0 (ls.take i++ls.drop i)=(i:Int):=by
  rw [findL_app,if_neg hn,List.drop_eq_getElem_cons hi,findL,if_pos ⟨rfl,rfl⟩,List.length_take]
  omega
 rwa [←e] at this
theorem seen_of {N:Int} {ls:List (Int × Int)} (h: ∀(i:Nat) (x:Int × Int),ls[i]? =some x→LinkOk N ls i x): ∀(i:Nat) (x:Int × Int),ls[i]? =some x→seenOk N (ls.take i) x:=by
 intro i x hx
 obtain⟨a,b,c,d,_⟩:=h i x hx
 refine⟨a,b,c,fun hm=>?_⟩
 have q:=findL_mem (s:=0).2 hm
 obtain⟨hi,rfl⟩:=List.getElem?_eq_some_iff.1 hx
 have e:ls=ls.take i++ls.drop i:=(List.take_append_drop i ls).symm
 have:findL ls[i].1 ls[i].2 0 (ls.take i++ls.drop i)=(i:Int):=by rw [←e];exact d
 rw [findL_app,if_pos q] at this
 obtain⟨j,hj,e1,_⟩:=findL_some q
 rw [List.length_take] at hj
 omega
theorem Right_spec (N:Int) (ls:List (Int × Int)):Pure Tryz.prog 92 [eG N ls] (scb (rightB N ls)):=by
 refine pcall0 200 (fn:=Tryz.f92) Tryz.func92 rfl (by simp [Tryz.ntmps92]) zB zB fun hs=>?_
 ((try refine zW ?_);(try with_reducible exact True.intro))
 by_cases hN1:N < 1
 ·have e:rightB N ls=false:=by simp [rightB];omega
  (try simp (maxSteps:=2000000) (disch:=omega) only [go_sem,simprocAttr,zD,zE,e,hN1])
 by_cases hN6:6 < N
 ·have e:rightB N ls=false:=by simp [rightB];omega
  (try simp (maxSteps:=2000000) (disch:=omega) only [go_sem,simprocAttr,zD,zE,e,hN1,hN6])
 by_cases hL:30 < ls.length
 ·have e:rightB N ls=false:=by simp [rightB];omega
  have hL':(30:Int) < ls.length:=by omega
  (try simp (maxSteps:=2000000) (disch:=omega) only [go_sem,simprocAttr,zD,zE,e,hN1,hN6,hL'])
 have hL': ¬(30:Int) < ls.length:=by omega
 (try simp (maxSteps:=2000000) (disch:=omega) only [go_sem,simprocAttr,zD,zE,hN1,hN6,hL'])
 (refine walk_trim [1,3,24,25,26] trivial zL ?_;((try refine zW ?_);(try with_reducible exact True.intro)))
 refine walk_floop 200 200 (fun i:Nat=>i≤ls.length∧ ∀(j:Nat) (x:Int × Int),j < i→ls[j]? =some x→seenOk N (ls.take j) x)
  (fun i=>⟨79, [(1, .ptr 0 0 0 0),(3, .mp 1),(24,lII ls),(25,sci .i64 ls.length),(26,sci .i64 i)], [],2, [(1, .mp (mpL (ls.take i))),(0, .arr 2 0 [[sci .i64 N,lII ls]])]⟩) (fun i=>ls.length - i) (0) [] ?_ ?_ ?_
 ·simp
 ·constructor<;>(try simp (maxSteps:=2000000) (disch:=omega) only [go_sem,simprocAttr,zD,zE,Int.natCast_zero,List.take_of_length_le,List.append_assoc,List.take_zero,mpL_nil])
 ·rintro i hi
  obtain⟨hi,hinvi⟩:=hi
  ((try refine zW ?_);(try with_reducible exact True.intro))
  by_cases li:i < ls.length
  ·have hx:ls[i]? =some ls[i]:=List.getElem?_eq_getElem li
   have hpt:ls.take (i+1)=ls.take i++ [ls[i]]:=List.take_succ_eq_append_getElem li
   have htl:(ls.take i).length=i:=by simp;omega
   have bad: ¬seenOk N (ls.take i) ls[i]→rightB N ls=false:=by
    intro q
    rw [Bool.eq_false_iff];intro h
    exact q (seen_of (rightB_iff.1 h).2.2.2.1 i _ hx)
   generalize hp:ls[i]=p at *
   obtain⟨a,b⟩:=p
   by_cases ha:0≤a∧a < N
   ·by_cases hb:0≤b∧b < N
    ·have ea:nodeB N a=true:=by simp only [nodeB];rw [←Bool.decide_and];simpa using ha
     have eb:nodeB N b=true:=by simp only [nodeB];rw [←Bool.decide_and];simpa using hb
     (try simp (maxSteps:=2000000) (disch:=omega) only [go_sem,simprocAttr,zD,zE,eII,hp])
     (refine at_call 200 ?_;(refine zW ?_;try with_reducible exact True.intro);refine callA_of (node_spec N a ls) zB ?_;((try refine zW ?_);(try with_reducible exact True.intro)))
     (try simp (maxSteps:=2000000) (disch:=omega) only [go_sem,simprocAttr,zD,zE,ea])
     (refine at_call 200 ?_;(refine zW ?_;try with_reducible exact True.intro);refine callA_of (node_spec N b ls) zB ?_;((try refine zW ?_);(try with_reducible exact True.intro)))
     (try simp (maxSteps:=2000000) (disch:=omega) only [go_sem,simprocAttr,zD,zE,eb])
     by_cases hab:a=b
     ·have e:=bad fun q=>q.2.2.1 hab
      (try simp (maxSteps:=2000000) (disch:=omega) only [go_sem,simprocAttr,zD,zE,hab,e])
     ·(try simp (maxSteps:=2000000) (disch:=omega) only [go_sem,simprocAttr,zD,zE,hab])
      rw [flookup_mp (l:=ls.take i) pm ?hG]
      case hG=>rfl
      by_cases hm:(a,b)∈ls.take i
      ·have e:=bad fun q=>q.2.2.2 hm
       have hf:0≤findL a b 0 (ls.take i):=findL_mem.2 hm
       (try simp (maxSteps:=2000000) (disch:=omega) only [go_sem,simprocAttr,zD,zE,hf,e])
      ·have hf: ¬0≤findL a b 0 (ls.take i):=fun q=>hm (findL_mem.1 q)
       (try simp (maxSteps:=2000000) (disch:=omega) only [go_sem,simprocAttr,zD,zE,hf])
       have z3:tzv Tryz.prog 3=some (.int .i64 0):=by kernel_rfl
       have hmn:min i ls.length=i:=by omega
       refine irun_tree (S':=⟨79, [(1, .ptr 0 0 0 0),(3, .mp 1),(24,lII ls),(25,sci .i64 ls.length),(26,sci .i64 i)], [],3, [(1, .mp (mpL (ls.take i++ [(a,b)]))),(0, .arr 2 0 [[sci .i64 N,lII ls]])]⟩) (.node [(0,(.node [(1,(.node [(2,(.node [(3,(.node [(4,(.node [(5,(.node [(6, .leaf)]))]))])),(4,(.node [(3,(.node [(5,(.node [(6, .leaf)]))])),(5,(.node [(3,(.node [(6, .leaf)]))]))]))])),(4,(.node [(2,(.node [(3,(.node [(5,(.node [(6, .leaf)]))])),(5,(.node [(3,(.node [(6, .leaf)]))]))])),(5,(.node [(2,(.node [(3,(.node [(6, .leaf)]))]))]))]))]))])),(1,(.node [(0,(.node [(2,(.node [(3,(.node [(4,(.node [(5,(.node [(6, .leaf)]))]))])),(4,(.node [(3,(.node [(5,(.node [(6, .leaf)]))])),(5,(.node [(3,(.node [(6, .leaf)]))]))]))])),(4,(.node [(2,(.node [(3,(.node [(5,(.node [(6, .leaf)]))])),(5,(.node [(3,(.node [(6, .leaf)]))]))])),(5,(.node [(2,(.node [(3,(.node [(6, .leaf)]))]))]))]))]))]))]) [] mixed (by kernel_rfl) ?_ trivial ?_
       ·simp (maxSteps:=2000000) (disch:=omega) only [go_sem,simprocAttr,zD,zE,flookup,fmapent,fentst,mlook,ikey,mf_no,mf_snoc,z3,hmn,mp_at,mp_set,htl,Value.cells,mpL_length,List.length_take,List.size_toArray]
       refine vc_sound _ 200 _ _ ?_
       ((try refine zW ?_);(try with_reducible exact True.intro))
       refine⟨i+1, [],⟨li,fun j x hj hx2=>?_⟩,by omega,?_⟩
       ·rcases Nat.lt_or_ge j i with q | q
        ·exact hinvi j x q hx2
        ·obtain rfl:j=i:=by omega
         rw [hx] at hx2
         cases hx2
         exact⟨ha,hb,hab,hm⟩
       ·constructor<;>(try simp (maxSteps:=2000000) (disch:=omega) only [go_sem,simprocAttr,zD,zE,hpt])
    ·have e:=bad fun q=>hb q.2.1
     have ea:nodeB N a=true:=by simp only [nodeB];rw [←Bool.decide_and];simpa using ha
     have eb:nodeB N b=false:=by simp only [nodeB];rw [←Bool.decide_and];simpa using hb
     (try simp (maxSteps:=2000000) (disch:=omega) only [go_sem,simprocAttr,zD,zE,eII,hp])
     (refine at_call 200 ?_;(refine zW ?_;try with_reducible exact True.intro);refine callA_of (node_spec N a ls) zB ?_;((try refine zW ?_);(try with_reducible exact True.intro)))
     (try simp (maxSteps:=2000000) (disch:=omega) only [go_sem,simprocAttr,zD,zE,ea])
     (refine at_call 200 ?_;(refine zW ?_;try with_reducible exact True.intro);refine callA_of (node_spec N b ls) zB ?_;((try refine zW ?_);(try with_reducible exact True.intro)))
     (try simp (maxSteps:=2000000) (disch:=omega) only [go_sem,simprocAttr,zD,zE,eb,e])
   ·have e:=bad fun q=>ha q.1
    have ea:nodeB N a=false:=by simp only [nodeB];rw [←Bool.decide_and];simpa using ha
    (try simp (maxSteps:=2000000) (disch:=omega) only [go_sem,simprocAttr,zD,zE,eII,hp])
    (refine at_call 200 ?_;(refine zW ?_;try with_reducible exact True.intro);refine callA_of (node_spec N a ls) zB ?_;((try refine zW ?_);(try with_reducible exact True.intro)))
    (try simp (maxSteps:=2000000) (disch:=omega) only [go_sem,simprocAttr,zD,zE,ea,e])
  ·obtain rfl:i=ls.length:=by omega
   (try simp (maxSteps:=2000000) (disch:=omega) only [go_sem,simprocAttr,zD,zE,List.take_length])
   have good:(∀x∈ls,(x.2,x.1)∈ls)→ ∀(i:Nat) (x:Int × Int),ls[i]? =some x→LinkOk N ls i x:=fun hb=>
    right_of (by omega) (by omega) (by omega) (fun i x hx=>hinvi i x (List.getElem?_eq_some_iff.1 hx).1 hx) hb
   (refine walk_trim [1,3,63,64,65] trivial zL ?_;((try refine zW ?_);(try with_reducible exact True.intro)))
   refine walk_floop 200 200 (fun i:Nat=>i≤ls.length∧ ∀(j:Nat) (x:Int × Int),j < i→ls[j]? =some x→(x.2,x.1)∈ls)
    (fun i=>⟨79, [(1, .ptr 0 0 0 0),(3, .mp 1),(63,lII ls),(64,sci .i64 ls.length),(65,sci .i64 i)], [],2, [(1, .mp (mpL ls)),(0, .arr 2 0 [[sci .i64 N,lII ls]])]⟩) (fun i=>ls.length - i) (0) [] ?_ ?_ ?_
   ·simp
   ·constructor<;>(try simp (maxSteps:=2000000) (disch:=omega) only [go_sem,simprocAttr,zD,zE,Int.natCast_zero,List.take_of_length_le,List.append_assoc])
   ·rintro i hi
    obtain⟨hi,hinvi⟩:=hi
    ((try refine zW ?_);(try with_reducible exact True.intro))
    by_cases li:i < ls.length
    ·have hx:ls[i]? =some ls[i]:=List.getElem?_eq_getElem li
     have bad:(ls[i].2,ls[i].1) ∉ ls→rightB N ls=false:=by
      intro q
      rw [Bool.eq_false_iff];intro h
      exact q ((rightB_iff.1 h).2.2.2.1 i _ hx).2.2.2.2
     generalize hp:ls[i]=p at *
     obtain⟨a,b⟩:=p
     (try simp (maxSteps:=2000000) (disch:=omega) only [go_sem,simprocAttr,zD,zE,eII,hp])
     (refine at_call 200 ?_;(refine zW ?_;try with_reducible exact True.intro);refine callA_of (turned_spec (a,b)) zB ?_;((try refine zW ?_);(try with_reducible exact True.intro)))
     ((try refine zO ?_);(try with_reducible exact True.intro))
     rw [flookup_mp (l:=ls) pm ?hG]
     case hG=>rfl
     by_cases hm:(b,a)∈ls
     ·have hf:0≤findL b a 0 ls:=findL_mem.2 hm
      (try simp (maxSteps:=2000000) (disch:=omega) only [go_sem,simprocAttr,zD,zE,hf])
      refine⟨i+1, [],⟨li,fun j x hj hx2=>?_⟩,by omega,?_⟩
      ·rcases Nat.lt_or_ge j i with q | q
       ·exact hinvi j x q hx2
       ·obtain rfl:j=i:=by omega
        rw [hx] at hx2
        cases hx2
        exact hm
      ·constructor<;>((try refine zO ?_);(try with_reducible exact True.intro))
     ·have hf: ¬0≤findL b a 0 ls:=fun q=>hm (findL_mem.1 q)
      have e:=bad hm
      (try simp (maxSteps:=2000000) (disch:=omega) only [go_sem,simprocAttr,zD,zE,hf,e])
    ·obtain rfl:i=ls.length:=by omega
     have hL1:=good fun x hx=>by
      obtain⟨j,hj,rfl⟩:=List.getElem_of_mem hx
      exact hinvi j _ hj (List.getElem?_eq_getElem hj)
     have hr:=RightP.inR hL1
     obtain⟨N,rfl⟩:=Int.eq_ofNat_of_zero_le (show 0≤N by omega)
     rw [Int.toNat_natCast] at hr
     obtain⟨hD1,hD2⟩:=bfsL_reach (N:=N) hr (by omega)
     ((try refine zO ?_);(try with_reducible exact True.intro))
     (refine at_call 200 ?_;(refine zW ?_;try with_reducible exact True.intro);refine callA_of (Dist_spec N ls hr (by omega) (by omega) (by omega)) zB ?_;((try refine zW ?_);(try with_reducible exact True.intro)))
     ((try refine zO ?_);(try with_reducible exact True.intro))
     (refine at_call 200 ?_;(refine zW ?_;try with_reducible exact True.intro);refine callA_of (Contains_spec _ _) zB ?_;((try refine zW ?_);(try with_reducible exact True.intro)))
     have e:(!decide ((-1:Int)∈bfsL N ls))=rightB N ls:=by
      rw [Bool.eq_iff_iff,Bool.not_eq_true',decide_eq_false_iff_not,rightB_iff]
      have at_get: ∀v,(hv:v < N)→at' (bfsL N ls) v=(bfsL N ls)[v]'(by omega):=fun v hv=>by simp [at',List.getD,hD1,hv]
      constructor
      ·intro h
       refine⟨by omega,by omega,by omega,hL1,fun v hv=>?_⟩
       rw [Int.toNat_natCast] at hv
       refine((hD2 v hv).2).1 ?_
       have h1:=(hD2 v hv).1
       rw [at_get v hv] at h1 ⊢
       rcases Int.lt_or_le ((bfsL N ls)[v]'(by omega)) 0 with q | q
       ·exact absurd (by have:(bfsL N ls)[v]'(by omega)= -1:=by omega
                         rw [←this];exact List.getElem_mem _) h
       ·exact q
      ·rintro⟨_,_,_,_,h5⟩ h
       obtain⟨v,hv,e2⟩:=List.getElem_of_mem h
       have hv':v < N:=by omega
       have:=((hD2 v hv').2).2 (h5 v (by simpa using hv'))
       rw [at_get v hv'] at this
       omega
     (try simp (maxSteps:=2000000) (disch:=omega) only [go_sem,simprocAttr,zD,zE,e])
     trace_state
end Go.Proofs.GY
