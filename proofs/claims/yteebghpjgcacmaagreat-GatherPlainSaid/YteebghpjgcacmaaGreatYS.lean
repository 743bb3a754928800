/- Facts that the proofs of this claim lean on. -/
import Derived.Test.YteebghpjgcacmaaGreatYA
import Derived.Test.YteebghpjgcacmaaGreatGPm
import Derived.Test.YteebghpjgcacmaaGreatIdPd
set_option linter.unusedSimpArgs false
set_option linter.unusedVariables false
/- Graphs: what each function answers. -/
namespace Go.Proofs.GY
open Go Go.Idl Go.Proofs Go.GP
set_option maxHeartbeats 20000000
set_option maxRecDepth 100000
def qco (N n:Int):Bool:=decide (0≤n) && decide (n < N)
theorem qc3 (N n:Int) (ls:List (Int × Int)):Pure Tryz.prog 120 [eG N ls,sci .i64 n] (scb (qco N n)):=by
 refine qaf 200 (fn:=Tryz.f120) Tryz.func120 rfl (by simp [Tryz.ntmps120]) zB zB fun hs=>?_
 (try simp only [go_sem,simprocAttr,qco])
 by_cases h:0≤n
 ·(try simp (disch:=omega) only [go_sem,simprocAttr,zD,zE,h])
 ·(try simp (disch:=omega) only [go_sem,simprocAttr,zD,zE,h])
theorem ql6 (x:Int × Int):Pure Tryz.prog 121 [.agg [sci .i64 x.1,sci .i64 x.2]] (.agg [sci .i64 x.2,sci .i64 x.1]):=by
 refine qaf 200 (fn:=Tryz.f121) Tryz.func121 rfl (by simp [Tryz.ntmps121]) zB zB fun hs=>?_
 ((try refine zW ?_);(try with_reducible exact True.intro))
def qaF (a:Int):Nat→List Int→Int
 | _, []=> -1
 | i,x::r=>if a=x then i else qaF a (i+1) r
theorem qbq (l:List Int) (a:Int):Pure Tryz.prog 78 [lI l,sci .i64 a] (sci .i64 (qaF a 0 l)):=by
 refine qaf 200 (fn:=Tryz.f78) Tryz.func78 rfl (by simp [Tryz.ntmps78]) zB zB fun hs=>?_
 simp only [go_sem,simprocAttr,maxLen] at hs
 try refine zO ?_
 refine qad 200 200 (fun i:Nat=>i≤l.length∧qaF a i (l.drop i)=qaF a 0 l)
  (fun i=>⟨19, [(0,lI l),(1,sci .i64 a),(7,sci .i64 l.length),(8,sci .i64 i)], [],0, []⟩) (fun i=>l.length - i) (0) [] ?_ ?_ ?_
 ·simp
 ·constructor<;>(try simp (disch:=omega) only [go_sem,simprocAttr,zD,zE,Int.natCast_zero,List.take_of_length_le,List.append_assoc])
 ·rintro i hi
  obtain⟨hi,hinvi⟩:=hi
  try refine zW ?_
  by_cases li:i < l.length
  ·rw [qbl li,qaF] at hinvi
   by_cases e:a=l[i]
   ·rw [if_pos e] at hinvi
    (try simp (disch:=omega) only [go_sem,simprocAttr,zD,zE,eI,←e,←hinvi])
   ·rw [if_neg e] at hinvi
    (try simp (disch:=omega) only [go_sem,simprocAttr,zD,zE,eI,e])
    refine⟨i+1, [],⟨by first | assumption | omega,hinvi⟩,?_,?_⟩
    ·(try simp only []);omega
    ·constructor<;>(try simp (disch:=omega) only [go_sem,simprocAttr,zD,zE,List.append_assoc])
  ·obtain rfl:i=l.length:=by omega
   rw [List.drop_length] at hinvi
   (try simp (disch:=omega) only [go_sem,simprocAttr,zD,zE,←hinvi,qaF])
theorem qdR {a:Int}: ∀ {l:List Int} {i:Nat},0≤qaF a i l↔a∈l
 | [],i=>by simp [qaF]
 | x::r,i=>by
   unfold qaF
   split
   ·rename_i e;simp [e]
   ·rename_i e;rw [qdR,List.mem_cons];simp [e]
theorem qfH (l:List Int) (a:Int):Pure Tryz.prog 122 [lI l,sci .i64 a] (scb (decide (a∈l))):=by
 refine qaf 200 (fn:=Tryz.f122) Tryz.func122 rfl (by simp [Tryz.ntmps122]) zB zB fun hs=>?_
 try refine zW ?_
 (refine qac 200 ?_;refine zW ?_;refine callA_of (qbq _ _) zB ?_;((try refine zW ?_);(try with_reducible exact True.intro)))
 have e:=qdR (a:=a) (l:=l) (i:=0)
 (try simp (disch:=omega) only [go_sem,simprocAttr,zD,zE,e])
theorem qpk (N n:Int) (ls:List (Int × Int)) (hl:ls.length≤1000000):Pure Tryz.prog 98 [eG N ls,sci .i64 n,sci .i64 0] (lI (outs n 0 ls)):=by
 refine qaf 200 (fn:=Tryz.f98) Tryz.func98 rfl (by simp [Tryz.ntmps98]) zB zB fun hs=>?_
 try refine zW ?_
 refine walk_own 7 1 trivial rfl (.inr rfl) ?_
 (refine walk_trim [1,2,7,11,12,13] trivial zL ?_;((try refine zW ?_);(try with_reducible exact True.intro)))
 refine qad 200 200 (fun i:Nat × Nat × List Int=>i.1≤ls.length∧i.2.2.length≤i.1∧i.2.2++outs n i.1 (ls.drop i.1)=outs n 0 ls)
  (fun i=>⟨29, [(1,sci .i64 n),(2,sci .i64 0),(7, .ref 1 i.2.1 0 i.2.2.length),(11,lII ls),(12,sci .i64 ls.length),(13,sci .i64 i.1)], [],2,
   [(1, .arr 1 i.2.1 (ir eI i.2.2))]⟩) (fun i=>ls.length - i.1) (0,0, []) [] ?_ ?_ ?_
 ·simp
 ·constructor<;>(try simp (disch:=omega) only [go_sem,simprocAttr,zD,zE,Int.natCast_zero])
 ·rintro⟨i,g,acc⟩ ⟨h1,h2,h3⟩
  simp only at h1 h2 h3
  try refine zW ?_
  by_cases hi:i < ls.length
  ·rw [qbl hi] at h3
   (try simp (disch:=omega) only [go_sem,simprocAttr,zD,zE,eII])
   by_cases hc:ls[i].1=n
   ·(try simp (disch:=omega) only [go_sem,simprocAttr,zD,zE,hc])
    refine⟨(i+1,g+1,acc++ [(i:Int)]), [],⟨hi,by simp;omega,by simpa [outs,hc] using h3⟩,by simp only;omega,?_⟩
    constructor<;>((try refine zO ?_);(try with_reducible exact True.intro))
   ·(try simp (disch:=omega) only [go_sem,simprocAttr,zD,zE,hc])
    refine⟨(i+1,g,acc), [],⟨hi,by simp only;omega,by simpa [outs,hc] using h3⟩,by simp only;omega,?_⟩
    constructor<;>((try refine zO ?_);(try with_reducible exact True.intro))
  ·obtain rfl:i=ls.length:=by omega
   rw [List.drop_length] at h3
   (try simp (disch:=omega) only [go_sem,simprocAttr,zD,zE,←h3,outs])
theorem qbZ (N n:Int) (ls:List (Int × Int)) (hl:ls.length≤1000000):Pure Tryz.prog 53 [eG N ls,sci .i64 n] (lI (outs n 0 ls)):=by
 refine qaf 200 (fn:=Tryz.f53) Tryz.func53 rfl (by simp [Tryz.ntmps53]) zB zB fun hs=>?_
 try refine zW ?_
 (refine qac 200 ?_;refine zW ?_;refine callA_of (qpk _ _ _ hl) zB ?_;((try refine zW ?_);(try with_reducible exact True.intro)))
 ((try refine zW ?_);(try with_reducible exact True.intro))
theorem qcW (N a b:Int) (ls:List (Int × Int)) (hl:ls.length≤1000000):Pure Tryz.prog 77 [eG N ls,sci .i64 a,sci .i64 b] (sci .i64 (qan a b 0 ls)):=by
 refine qaf 200 (fn:=Tryz.f77) Tryz.func77 rfl (by simp [Tryz.ntmps77]) zB zB fun hs=>?_
 try refine zW ?_
 (refine walk_trim [7,14,15,16] trivial zL ?_;((try refine zW ?_);(try with_reducible exact True.intro)))
 refine qad 200 200 (fun i:Nat=>i≤ls.length∧qan a b i (ls.drop i)=qan a b 0 ls)
  (fun i=>⟨26, [(7, .ptr 1 0 0 0),(14,lII ls),(15,sci .i64 ls.length),(16,sci .i64 i)], [],2, [(1, .arr 2 0 [[sci .i64 a,sci .i64 b]])]⟩) (fun i=>ls.length - i) (0) [] ?_ ?_ ?_
 ·simp
 ·constructor<;>(try simp (disch:=omega) only [go_sem,simprocAttr,zD,zE,Int.natCast_zero,List.take_of_length_le,List.append_assoc])
 ·rintro i hi
  obtain⟨hi,hinvi⟩:=hi
  try refine zW ?_
  by_cases li:i < ls.length
  ·rw [qbl li,qan] at hinvi
   (try simp (disch:=omega) only [go_sem,simprocAttr,zD,zE,eII])
   by_cases e1:ls[i].1=a
   ·by_cases e2:ls[i].2=b
    ·rw [if_pos ⟨e1,e2⟩] at hinvi
     (try simp (disch:=omega) only [go_sem,simprocAttr,zD,zE,e1,e2,←hinvi])
    ·rw [if_neg (fun h=>e2 h.2)] at hinvi
     (try simp (disch:=omega) only [go_sem,simprocAttr,zD,zE,e1,e2])
     refine⟨i+1, [],⟨by first | assumption | omega,hinvi⟩,?_,?_⟩
     ·(try simp only []);omega
     ·constructor<;>(try simp (disch:=omega) only [go_sem,simprocAttr,zD,zE,List.append_assoc])
   ·rw [if_neg (fun h=>e1 h.1)] at hinvi
    (try simp (disch:=omega) only [go_sem,simprocAttr,zD,zE,e1])
    refine⟨i+1, [],⟨by first | assumption | omega,hinvi⟩,?_,?_⟩
    ·(try simp only []);omega
    ·constructor<;>(try simp (disch:=omega) only [go_sem,simprocAttr,zD,zE,List.append_assoc])
  ·obtain rfl:i=ls.length:=by omega
   rw [List.drop_length] at hinvi
   (try simp (disch:=omega) only [go_sem,simprocAttr,zD,zE,←hinvi,qan])
theorem qmQ (N:Nat) (h1:1≤N) (h6:N≤6):PNew Tryz.prog 140 [lI [-1],sci .i64 N] (.ref 0 0 0 N) (.arr 1 0 (ir eI (List.replicate N (-1)))):=by
 obtain rfl | rfl | rfl | rfl | rfl | rfl:N=1∨N=2∨N=3∨N=4∨N=5∨N=6:=by omega
 all_goals exact xnew0 1000 (fun _=>false) 1 (by kernel_rfl) (by kernel_rfl) (by kernel_rfl) (by kernel_rfl) (by simp [qaT,ir,eI,List.replicate,bels,bel,sci]) (by kernel_rfl)
theorem qnF (N:Nat) (ls:List (Int × Int)) (hr:InR N ls) (hl:ls.length≤30) (h1:1≤N) (h6:N≤6):Pure Tryz.prog 123 [eG N ls,sci .i64 0] (lI (bfsL N ls)):=by
 refine qaf 200 (fn:=Tryz.f123) Tryz.func123 rfl (by simp [Tryz.ntmps123]) zB zB fun hs=>?_
 try refine zW ?_
 refine qnC 200 200 ?_
 try refine zW ?_
 (refine qac 200 ?_;refine zW ?_;refine callA_of (qc3 N 0 ls) zB ?_;((try refine zW ?_);(try with_reducible exact True.intro)))
 have en:qco N 0=true:=by simp [qco];omega
 (try simp (maxSteps:=2000000) (disch:=omega) only [go_sem,simprocAttr,zD,zE,en])
 refine qbY 200 [1] ⟨65, [(1,sci .i64 0),(2, .ptr 0 0 0 0),(15,lI [-1]),(17,sci .i64 N)], [],1, [(0, .arr 2 0 [[sci .i64 N,lII ls]])]⟩ trivial ?_ ?_
 ·constructor<;>(try simp (maxSteps:=2000000) (disch:=omega) only [go_sem,simprocAttr,zD,zE,show [[PV.sc (.int .i64 (-1))]]=pr eI [-1] from rfl])
 try refine zW ?_
 (refine at_new 200 ?_;refine zW ?_;refine qoN (qmQ N h1 h6) ?_;((try refine zW ?_);(try with_reducible exact True.intro)))
 have hp:0 < N:=h1
 have e0:(ir eI (List.replicate N (-1)))[0]? =some [.p (.sc (.int .i64 (-1)))]:=by rw [qcL (by simpa using hp)];simp [eI]
 (try simp (maxSteps:=2000000) (disch:=omega) only [go_sem,simprocAttr,zD,zE,e0,hp])
 (refine walk_trim [2,5,6] trivial zL ?_;((try refine zW ?_);(try with_reducible exact True.intro)))
 refine qad 200 200 (fun i:Nat × Nat × List Int × List Int × List Int=>(∃d,Bq N ls i.1 i.2.2.1 i.2.2.2.2 d)∧qhC ls i.1 i.2.2.1 i.2.2.2.2=bfsL N ls)
  (fun i=>⟨65, [(2, .ptr 0 0 0 0),(5, .ref 1 0 0 N),(6, .ref 2 i.2.1 i.2.2.2.1.length i.2.2.2.2.length)], [],3,
   [(2, .arr 1 i.2.1 (ir eI (i.2.2.2.1++i.2.2.2.2))),(1, .arr 1 0 (ir eI i.2.2.1)),(0, .arr 2 0 [[sci .i64 N,lII ls]])]⟩) (fun i=>i.1) (N,0,(List.replicate N (-1)).set 0 0, [], [0]) [] ?_ ?_ ?_
 ·exact⟨⟨_,Bq.init hp⟩,rfl⟩
 ·constructor<;>(try simp (maxSteps:=2000000) (disch:=omega) only [go_sem,simprocAttr,zD,zE,irl1])
 ·rintro⟨f,e,out,pre,q⟩ ⟨⟨d,hB⟩,hG⟩
  simp only at hB hG
  have hlen:=hB.len
  have hqq:=hB.few
  have hle:=hB.le
  try refine zW ?_
  cases q with
  | nil=>
    have hG2:out=bfsL N ls:=by rw [←hG];cases f<;>rfl
    rw [hG2] at hlen
    (try simp (maxSteps:=2000000) (disch:=omega) only [go_sem,simprocAttr,zD,zE,hG2,List.take_of_length_le])
  | cons n q=>
    cases f with
    | zero=>simp only [List.length_cons] at hqq;omega
    | succ f=>
      have hBi:=hB.pop
      obtain⟨n0,n1,n2,n3⟩:=hBi.n0
      obtain⟨n,rfl⟩:=Int.eq_ofNat_of_zero_le n0
      simp only [List.length_cons] at hqq
      have hi0:(ir eI (pre++(n:Int)::q))[pre.length]? =some [.p (.sc (.int .i64 n))]:=by rw [qcL (by simp)];simp [eI]
      have hq1: ¬((q.length:Int)+1=0):=by omega
      (try simp (maxSteps:=2000000) (disch:=omega) only [go_sem,simprocAttr,zD,zE,hi0,hq1])
      (refine qac 200 ?_;refine zW ?_;refine callA_of (qbZ N n ls (by omega)) zB ?_;((try refine zW ?_);(try with_reducible exact True.intro)))
      try refine zO ?_
      (refine walk_trim [2,5,6,7,34,35,36] trivial zL ?_;((try refine zW ?_);(try with_reducible exact True.intro)))
      generalize hos:outs (n:Int) 0 ls=os at *
      have hol:os.length≤30:=by rw [←hos];exact Nat.le_trans (qkY ls 0) hl
      have hom: ∀l∈os,∃j,∃hj:j < ls.length,l=(j:Int)∧ls[j].1=(n:Int):=fun l h=>by
       rw [←hos] at h
       obtain⟨j,hj,e1,e2⟩:=qfy h
       exact⟨j,hj,by rw [e1];simp,e2⟩
      rw [qhC,hos] at hG
      refine qad 200 200 (fun i:Nat × Nat × List Int × List Int × List Int=>i.1≤os.length∧(i.2.2.1,i.2.2.2.2)=(os.take i.1).foldl (qb1 ls n) (out,q))
       (fun i=>⟨65, [(2, .ptr 0 0 0 0),(5, .ref 1 0 0 N),(6, .ref 2 i.2.1 i.2.2.2.1.length i.2.2.2.2.length),(7,sci .i64 n),(34,lI os),(35,sci .i64 os.length),(36,sci .i64 i.1)], [],3,
        [(2, .arr 1 i.2.1 (ir eI (i.2.2.2.1++i.2.2.2.2))),(1, .arr 1 0 (ir eI i.2.2.1)),(0, .arr 2 0 [[sci .i64 N,lII ls]])]⟩) (fun i=>os.length - i.1) (0,e,out,pre++ [(n:Int)],q) [] ?_ ?_ ?_
      ·simp
      ·constructor<;>(try simp (maxSteps:=2000000) (disch:=omega) only [go_sem,simprocAttr,zD,zE,Int.natCast_zero,List.append_assoc,Nat.add_sub_cancel])
      ·rintro⟨k,e,out2,pre,q2⟩ ⟨hk,hs2⟩
       simp only at hk hs2
       have hBk:=(Bi.all hr (os.take k) (fun l h=>hom l (List.mem_of_mem_take h)) hBi).1
       rw [←hs2] at hBk
       have hlen:=hBk.len
       have hqq:=hBk.few
       simp only at hlen hqq
       try refine zW ?_
       by_cases lk:k < os.length
       ·obtain⟨j,hj,e1,e2⟩:=hom os[k] (List.getElem_mem lk)
        obtain⟨_,b0,b1⟩:=hr _ (List.getElem_mem hj)
        obtain⟨_,_,m2,m3⟩:=hBk.n0
        simp only [Int.toNat_natCast] at m2 m3
        have hst:qb1 ls n (out2,q2) os[k]=if at' out2 ls[j].2.toNat < 0 then(out2.set ls[j].2.toNat (at' out2 n+1),q2++ [ls[j].2]) else(out2,q2):=by
         simp only [qb1,e1,Int.toNat_natCast]
         simp [List.getD,hj]
        have hnx:(os.take (k+1)).foldl (qb1 ls n) (out,q)=qb1 ls n (out2,q2) os[k]:=by
         rw [List.take_succ_eq_append_getElem lk,List.foldl_append,←hs2];rfl
        generalize hx:ls[j]=x at *
        obtain⟨xa,xb⟩:=x
        simp only at b0 b1 hst
        obtain⟨b,rfl⟩:=Int.eq_ofNat_of_zero_le b0
        simp only [Int.toNat_natCast] at hst
        have hb:b < out2.length:=by omega
        have hn:n < out2.length:=by omega
        have gb:at' out2 b=out2[b]:=by simp [at',List.getD,hb]
        have gn:at' out2 n=out2[n]:=by simp [at',List.getD,hn]
        have ib:(ir eI out2)[b]? =some [.p (.sc (.int .i64 out2[b]))]:=by rw [qcL hb];simp [eI]
        have iN:(ir eI out2)[n]? =some [.p (.sc (.int .i64 out2[n]))]:=by rw [qcL hn];simp [eI]
        rw [gb,gn] at hst
        rw [gn] at m2 m3
        (try simp (maxSteps:=2000000) (disch:=omega) only [go_sem,simprocAttr,zD,zE,eI,e1,hx,eII])
        by_cases hc:out2[b] < 0
        ·rw [if_pos hc] at hst
         (try simp (maxSteps:=2000000) (disch:=omega) only [go_sem,simprocAttr,zD,zE,ib,iN,hc,gb,List.drop_left,Nat.add_sub_cancel_left])
         refine⟨(k+1,e+1,out2.set b (out2[n]+1), [],q2++ [(b:Int)]), [],⟨lk,by simp only;rw [hnx,hst]⟩,by simp only;omega,?_⟩
         constructor<;>((try refine zO ?_);(try with_reducible exact True.intro))
        ·rw [if_neg hc] at hst
         (try simp (maxSteps:=2000000) (disch:=omega) only [go_sem,simprocAttr,zD,zE,ib,hc])
         refine⟨(k+1,e,out2,pre,q2), [],⟨lk,by simp only;rw [hnx,hst]⟩,by simp only;omega,?_⟩
         constructor<;>((try refine zO ?_);(try with_reducible exact True.intro))
       ·obtain rfl:k=os.length:=by omega
        rw [List.take_length] at hs2
        have hN:=hBi.next hr
        rw [hos,←hs2] at hN
        rw [←hs2] at hG
        try refine zO ?_
        refine⟨(f,e,out2,pre,q2), [],⟨⟨_,hN⟩,hG⟩,by simp only;omega,?_⟩
        constructor<;>((try refine zO ?_);(try with_reducible exact True.intro))
theorem pm:qgs Tryz.prog 206:=⟨133,3,by kernel_rfl,by kernel_rfl,by kernel_rfl,by kernel_rfl⟩
def qik (N:Int) (l:List (Int × Int)) (x:Int × Int):Prop:=(0≤x.1∧x.1 < N)∧(0≤x.2∧x.2 < N)∧x.1≠x.2∧x ∉ l
theorem qpH {N:Int} {ls:List (Int × Int)} (h1:1≤N) (h6:N≤6) (hl:ls.length≤30) (hs: ∀(i:Nat) (x:Int × Int),ls[i]? =some x→qik N (ls.take i) x) (hb: ∀x∈ls,(x.2,x.1)∈ls):
  ∀(i:Nat) (x:Int × Int),ls[i]? =some x→qc8 N ls i x:=by
 intro i x hx
 obtain⟨a,b,c,d⟩:=hs i x hx
 obtain⟨hi,rfl⟩:=List.getElem?_eq_some_iff.1 hx
 refine⟨a,b,c,?_,hb _ (List.getElem_mem hi)⟩
 have e:ls=ls.take i++ls.drop i:=(List.take_append_drop i ls).symm
 have hn: ¬0≤qan ls[i].1 ls[i].2 0 (ls.take i):=fun q=>d (qaN.1 q)
 have:qan ls[i].1 ls[i].2 0 (ls.take i++ls.drop i)=(i:Int):=by
  rw [findL_app,if_neg hn,List.drop_eq_getElem_cons hi,qan,if_pos ⟨rfl,rfl⟩,List.length_take]
  omega
 rwa [←e] at this
theorem qqU {N:Int} {ls:List (Int × Int)} (h: ∀(i:Nat) (x:Int × Int),ls[i]? =some x→qc8 N ls i x): ∀(i:Nat) (x:Int × Int),ls[i]? =some x→qik N (ls.take i) x:=by
 intro i x hx
 obtain⟨a,b,c,d,_⟩:=h i x hx
 refine⟨a,b,c,fun hm=>?_⟩
 have q:=qaN (s:=0).2 hm
 obtain⟨hi,rfl⟩:=List.getElem?_eq_some_iff.1 hx
 have e:ls=ls.take i++ls.drop i:=(List.take_append_drop i ls).symm
 have:qan ls[i].1 ls[i].2 0 (ls.take i++ls.drop i)=(i:Int):=by rw [←e];exact d
 rw [findL_app,if_pos q] at this
 obtain⟨j,hj,e1,_⟩:=qcC q
 rw [List.length_take] at hj
 omega
theorem qmR (N:Int) (ls:List (Int × Int)):Pure Tryz.prog 92 [eG N ls] (scb (qaV N ls)):=by
 refine qaf 200 (fn:=Tryz.f92) Tryz.func92 rfl (by simp [Tryz.ntmps92]) zB zB fun hs=>?_
 try refine zW ?_
 by_cases hN1:N < 1
 ·have e:qaV N ls=false:=by simp [qaV];omega
  (try simp (maxSteps:=2000000) (disch:=omega) only [go_sem,simprocAttr,zD,zE,e,hN1])
 by_cases hN6:6 < N
 ·have e:qaV N ls=false:=by simp [qaV];omega
  (try simp (maxSteps:=2000000) (disch:=omega) only [go_sem,simprocAttr,zD,zE,e,hN1,hN6])
 by_cases hL:30 < ls.length
 ·have e:qaV N ls=false:=by simp [qaV];omega
  have hL':(30:Int) < ls.length:=by omega
  (try simp (maxSteps:=2000000) (disch:=omega) only [go_sem,simprocAttr,zD,zE,e,hN1,hN6,hL'])
 have hL': ¬(30:Int) < ls.length:=by omega
 (try simp (maxSteps:=2000000) (disch:=omega) only [go_sem,simprocAttr,zD,zE,hN1,hN6,hL'])
 (refine walk_trim [1,3,24,25,26] trivial zL ?_;((try refine zW ?_);(try with_reducible exact True.intro)))
 refine qad 200 200 (fun i:Nat=>i≤ls.length∧ ∀(j:Nat) (x:Int × Int),j < i→ls[j]? =some x→qik N (ls.take j) x)
  (fun i=>⟨79, [(1, .ptr 0 0 0 0),(3, .mp 1),(24,lII ls),(25,sci .i64 ls.length),(26,sci .i64 i)], [],2, [(1, .mp (mpL (ls.take i))),(0, .arr 2 0 [[sci .i64 N,lII ls]])]⟩) (fun i=>ls.length - i) (0) [] ?_ ?_ ?_
 ·simp
 ·constructor<;>(try simp (maxSteps:=2000000) (disch:=omega) only [go_sem,simprocAttr,zD,zE,Int.natCast_zero,List.take_of_length_le,List.append_assoc,List.take_zero,qqx])
 ·rintro i hi
  obtain⟨hi,hinvi⟩:=hi
  try refine zW ?_
  by_cases li:i < ls.length
  ·have hx:ls[i]? =some ls[i]:=List.getElem?_eq_getElem li
   have hpt:ls.take (i+1)=ls.take i++ [ls[i]]:=List.take_succ_eq_append_getElem li
   have htl:(ls.take i).length=i:=by simp;omega
   have bad: ¬qik N (ls.take i) ls[i]→qaV N ls=false:=by
    intro q
    rw [Bool.eq_false_iff];intro h
    exact q (qqU (qcb.1 h).2.2.2.1 i _ hx)
   generalize hp:ls[i]=p at *
   obtain⟨a,b⟩:=p
   by_cases ha:0≤a∧a < N
   ·by_cases hb:0≤b∧b < N
    ·have ea:qco N a=true:=by simp only [qco];rw [←Bool.decide_and];simpa using ha
     have eb:qco N b=true:=by simp only [qco];rw [←Bool.decide_and];simpa using hb
     (try simp (maxSteps:=2000000) (disch:=omega) only [go_sem,simprocAttr,zD,zE,eII,hp])
     (refine qac 200 ?_;refine zW ?_;refine callA_of (qc3 N a ls) zB ?_;((try refine zW ?_);(try with_reducible exact True.intro)))
     (try simp (maxSteps:=2000000) (disch:=omega) only [go_sem,simprocAttr,zD,zE,ea])
     (refine qac 200 ?_;refine zW ?_;refine callA_of (qc3 N b ls) zB ?_;((try refine zW ?_);(try with_reducible exact True.intro)))
     (try simp (maxSteps:=2000000) (disch:=omega) only [go_sem,simprocAttr,zD,zE,eb])
     by_cases hab:a=b
     ·have e:=bad fun q=>q.2.2.1 hab
      (try simp (maxSteps:=2000000) (disch:=omega) only [go_sem,simprocAttr,zD,zE,hab,e])
     ·(try simp (maxSteps:=2000000) (disch:=omega) only [go_sem,simprocAttr,zD,zE,hab])
      rw [qhN (l:=ls.take i) pm ?hG]
      case hG=>rfl
      by_cases hm:(a,b)∈ls.take i
      ·have e:=bad fun q=>q.2.2.2 hm
       have hf:0≤qan a b 0 (ls.take i):=qaN.2 hm
       (try simp (maxSteps:=2000000) (disch:=omega) only [go_sem,simprocAttr,zD,zE,hf,e])
      ·have hf: ¬0≤qan a b 0 (ls.take i):=fun q=>hm (qaN.1 q)
       (try simp (maxSteps:=2000000) (disch:=omega) only [go_sem,simprocAttr,zD,zE,hf])
       have z3:tzv Tryz.prog 3=some (.int .i64 0):=by kernel_rfl
       have hmn:min i ls.length=i:=by omega
       refine qoa (S':=⟨79, [(1, .ptr 0 0 0 0),(3, .mp 1),(24,lII ls),(25,sci .i64 ls.length),(26,sci .i64 i)], [],3, [(1, .mp (mpL (ls.take i++ [(a,b)]))),(0, .arr 2 0 [[sci .i64 N,lII ls]])]⟩) (.node [(0,(.node [(1,(.node [(2,(.node [(3,(.node [(4,(.node [(5,(.node [(6, .leaf)]))]))])),(4,(.node [(3,(.node [(5,(.node [(6, .leaf)]))])),(5,(.node [(3,(.node [(6, .leaf)]))]))]))])),(4,(.node [(2,(.node [(3,(.node [(5,(.node [(6, .leaf)]))])),(5,(.node [(3,(.node [(6, .leaf)]))]))])),(5,(.node [(2,(.node [(3,(.node [(6, .leaf)]))]))]))]))]))])),(1,(.node [(0,(.node [(2,(.node [(3,(.node [(4,(.node [(5,(.node [(6, .leaf)]))]))])),(4,(.node [(3,(.node [(5,(.node [(6, .leaf)]))])),(5,(.node [(3,(.node [(6, .leaf)]))]))]))])),(4,(.node [(2,(.node [(3,(.node [(5,(.node [(6, .leaf)]))])),(5,(.node [(3,(.node [(6, .leaf)]))]))])),(5,(.node [(2,(.node [(3,(.node [(6, .leaf)]))]))]))]))]))]))]) [] qap (by kernel_rfl) ?_ trivial ?_
       ·simp (maxSteps:=2000000) (disch:=omega) only [go_sem,simprocAttr,zD,zE,qbp,qd2,qeU,mlook,ikey,mf_no,qqv,z3,hmn,mp_at,mp_set,htl,Value.cells,qnf,List.length_take,List.size_toArray]
       refine vc_sound _ 200 _ _ ?_
       try refine zW ?_
       refine⟨i+1, [],⟨li,fun j x hj hx2=>?_⟩,by omega,?_⟩
       ·rcases Nat.lt_or_ge j i with q | q
        ·exact hinvi j x q hx2
        ·obtain rfl:j=i:=by omega
         rw [hx] at hx2
         cases hx2
         exact⟨ha,hb,hab,hm⟩
       ·constructor<;>(try simp (maxSteps:=2000000) (disch:=omega) only [go_sem,simprocAttr,zD,zE,hpt])
    ·have e:=bad fun q=>hb q.2.1
     have ea:qco N a=true:=by simp only [qco];rw [←Bool.decide_and];simpa using ha
     have eb:qco N b=false:=by simp only [qco];rw [←Bool.decide_and];simpa using hb
     (try simp (maxSteps:=2000000) (disch:=omega) only [go_sem,simprocAttr,zD,zE,eII,hp])
     (refine qac 200 ?_;refine zW ?_;refine callA_of (qc3 N a ls) zB ?_;((try refine zW ?_);(try with_reducible exact True.intro)))
     (try simp (maxSteps:=2000000) (disch:=omega) only [go_sem,simprocAttr,zD,zE,ea])
     (refine qac 200 ?_;refine zW ?_;refine callA_of (qc3 N b ls) zB ?_;((try refine zW ?_);(try with_reducible exact True.intro)))
     (try simp (maxSteps:=2000000) (disch:=omega) only [go_sem,simprocAttr,zD,zE,eb,e])
   ·have e:=bad fun q=>ha q.1
    have ea:qco N a=false:=by simp only [qco];rw [←Bool.decide_and];simpa using ha
    (try simp (maxSteps:=2000000) (disch:=omega) only [go_sem,simprocAttr,zD,zE,eII,hp])
    (refine qac 200 ?_;refine zW ?_;refine callA_of (qc3 N a ls) zB ?_;((try refine zW ?_);(try with_reducible exact True.intro)))
    (try simp (maxSteps:=2000000) (disch:=omega) only [go_sem,simprocAttr,zD,zE,ea,e])
  ·obtain rfl:i=ls.length:=by omega
   (try simp (maxSteps:=2000000) (disch:=omega) only [go_sem,simprocAttr,zD,zE,List.take_length])
   have good:(∀x∈ls,(x.2,x.1)∈ls)→ ∀(i:Nat) (x:Int × Int),ls[i]? =some x→qc8 N ls i x:=fun hb=>
    qpH (by omega) (by omega) (by omega) (fun i x hx=>hinvi i x (List.getElem?_eq_some_iff.1 hx).1 hx) hb
   (refine walk_trim [1,3,63,64,65] trivial zL ?_;((try refine zW ?_);(try with_reducible exact True.intro)))
   refine qad 200 200 (fun i:Nat=>i≤ls.length∧ ∀(j:Nat) (x:Int × Int),j < i→ls[j]? =some x→(x.2,x.1)∈ls)
    (fun i=>⟨79, [(1, .ptr 0 0 0 0),(3, .mp 1),(63,lII ls),(64,sci .i64 ls.length),(65,sci .i64 i)], [],2, [(1, .mp (mpL ls)),(0, .arr 2 0 [[sci .i64 N,lII ls]])]⟩) (fun i=>ls.length - i) (0) [] ?_ ?_ ?_
   ·simp
   ·constructor<;>(try simp (maxSteps:=2000000) (disch:=omega) only [go_sem,simprocAttr,zD,zE,Int.natCast_zero,List.take_of_length_le,List.append_assoc])
   ·rintro i hi
    obtain⟨hi,hinvi⟩:=hi
    try refine zW ?_
    by_cases li:i < ls.length
    ·have hx:ls[i]? =some ls[i]:=List.getElem?_eq_getElem li
     have bad:(ls[i].2,ls[i].1) ∉ ls→qaV N ls=false:=by
      intro q
      rw [Bool.eq_false_iff];intro h
      exact q ((qcb.1 h).2.2.2.1 i _ hx).2.2.2.2
     generalize hp:ls[i]=p at *
     obtain⟨a,b⟩:=p
     (try simp (maxSteps:=2000000) (disch:=omega) only [go_sem,simprocAttr,zD,zE,eII,hp])
     (refine qac 200 ?_;refine zW ?_;refine callA_of (ql6 (a,b)) zB ?_;((try refine zW ?_);(try with_reducible exact True.intro)))
     try refine zO ?_
     rw [qhN (l:=ls) pm ?hG]
     case hG=>rfl
     by_cases hm:(b,a)∈ls
     ·have hf:0≤qan b a 0 ls:=qaN.2 hm
      (try simp (maxSteps:=2000000) (disch:=omega) only [go_sem,simprocAttr,zD,zE,hf])
      refine⟨i+1, [],⟨li,fun j x hj hx2=>?_⟩,by omega,?_⟩
      ·rcases Nat.lt_or_ge j i with q | q
       ·exact hinvi j x q hx2
       ·obtain rfl:j=i:=by omega
        rw [hx] at hx2
        cases hx2
        exact hm
      ·constructor<;>((try refine zO ?_);(try with_reducible exact True.intro))
     ·have hf: ¬0≤qan b a 0 ls:=fun q=>hm (qaN.1 q)
      have e:=bad hm
      (try simp (maxSteps:=2000000) (disch:=omega) only [go_sem,simprocAttr,zD,zE,hf,e])
    ·obtain rfl:i=ls.length:=by omega
     have hL1:=good fun x hx=>by
      obtain⟨j,hj,rfl⟩:=List.getElem_of_mem hx
      exact hinvi j _ hj (List.getElem?_eq_getElem hj)
     have hr:=qcI.inR hL1
     obtain⟨N,rfl⟩:=Int.eq_ofNat_of_zero_le (show 0≤N by omega)
     rw [Int.toNat_natCast] at hr
     obtain⟨hD1,hD2⟩:=qmV (N:=N) hr (by omega)
     try refine zO ?_
     (refine qac 200 ?_;refine zW ?_;refine callA_of (qnF N ls hr (by omega) (by omega) (by omega)) zB ?_;((try refine zW ?_);(try with_reducible exact True.intro)))
     try refine zO ?_
     (refine qac 200 ?_;refine zW ?_;refine callA_of (qfH _ _) zB ?_;((try refine zW ?_);(try with_reducible exact True.intro)))
     have e:(!decide ((-1:Int)∈bfsL N ls))=qaV N ls:=by
      rw [Bool.eq_iff_iff,Bool.not_eq_true',decide_eq_false_iff_not,qcb]
      have at_get: ∀v,(hv:v < N)→at' (bfsL N ls) v=(bfsL N ls)[v]'(by omega):=fun v hv=>by simp [at',List.getD,hD1,hv]
      constructor
      ·intro h
       refine⟨by omega,by omega,by omega,hL1,fun v hv=>?_⟩
       rw [Int.toNat_natCast] at hv
       refine((hD2 v hv).2).1 ?_
       have h1:=(hD2 v hv).1
       rw [at_get v hv] at h1 ⊢
       rcases Int.lt_or_le ((bfsL N ls)[v]'(by omega)) 0 with q | q
       ·exact absurd (by have:(bfsL N ls)[v]'(by omega)= -1:=by omega
                         rw [←this];exact List.getElem_mem _) h
       ·exact q
      ·rintro⟨_,_,_,_,h5⟩ h
       obtain⟨v,hv,e2⟩:=List.getElem_of_mem h
       have hv':v < N:=by omega
       have:=((hD2 v hv').2).2 (h5 v (by simpa using hv'))
       rw [at_get v hv'] at this
       omega
     (try simp (maxSteps:=2000000) (disch:=omega) only [go_sem,simprocAttr,zD,zE,e])
     trace_state
end Go.Proofs.GY
