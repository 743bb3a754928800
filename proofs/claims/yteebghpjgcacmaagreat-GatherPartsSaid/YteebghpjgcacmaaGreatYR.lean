/- How far nodes are; which graphs may be. -/
import Derived.Test.YteebghpjgcacmaaGreatYQ
import Derived.Test.YteebghpjgcacmaaGreatGPm
set_option linter.unusedSimpArgs false
set_option linter.unusedVariables false
namespace Go.Proofs.GY
open Go Go.Idl Go.Proofs Go.GP
set_option maxHeartbeats 20000000
set_option maxRecDepth 100000
theorem Dist_spec (N:Nat) (ls:List (Int × Int)) (hr:InR N ls) (hl:ls.length≤30) (h1:1≤N) (h6:N≤6):Pure Tryz.prog 123 [eG N ls,sci .i64 0] (lI (bfsL N ls)):=by
 refine pcall0 200 (fn:=Tryz.f123) Tryz.func123 rfl (by simp [Tryz.ntmps123]) zB zB fun hs=>?_
 ((try refine zW ?_);(try with_reducible exact True.intro))
 refine walk_scope 200 200 ?_
 ((try refine zW ?_);(try with_reducible exact True.intro))
 (refine at_call 200 ?_;(refine zW ?_;try with_reducible exact True.intro);refine callA_of (node_spec N 0 ls) zB ?_;((try refine zW ?_);(try with_reducible exact True.intro)))
 have en:nodeB N 0=true:=by simp [nodeB];omega
 (try simp (maxSteps:=2000000) (disch:=omega) only [go_sem,simprocAttr,zD,zE,en])
 refine walk_fcut 200 [1] ⟨65, [(1,sci .i64 0),(2, .ptr 0 0 0 0),(15,lI [-1]),(17,sci .i64 N)], [],1, [(0, .arr 2 0 [[sci .i64 N,lII ls]])]⟩ trivial ?_ ?_
 ·constructor<;>(try simp (maxSteps:=2000000) (disch:=omega) only [go_sem,simprocAttr,zD,zE,show [[PV.sc (.int .i64 (-1))]]=pr eI [-1] from rfl])
 ((try refine zW ?_);(try with_reducible exact True.intro))
 (refine at_new 200 ?_;(refine zW ?_;try with_reducible exact True.intro);refine callN_of (Repeat_new N h1 h6) ?_;((try refine zW ?_);(try with_reducible exact True.intro)))
 have hp:0 < N:=h1
 have e0:(ir eI (List.replicate N (-1)))[0]? =some [.p (.sc (.int .i64 (-1)))]:=by rw [ir_get (by simpa using hp)];simp [eI]
 (try simp (maxSteps:=2000000) (disch:=omega) only [go_sem,simprocAttr,zD,zE,e0,hp])
 (refine walk_trim [2,5,6] trivial zL ?_;((try refine zW ?_);(try with_reducible exact True.intro)))
 refine walk_floop 200 200 (fun i:Nat × Nat × List Int × List Int × List Int=>(∃d,Bq N ls i.1 i.2.2.1 i.2.2.2.2 d)∧bfsGo ls i.1 i.2.2.1 i.2.2.2.2=bfsL N ls)
  (fun i=>⟨65, [(2, .ptr 0 0 0 0),(5, .ref 1 0 0 N),(6, .ref 2 i.2.1 i.2.2.2.1.length i.2.2.2.2.length)], [],3,
   [(2, .arr 1 i.2.1 (ir eI (i.2.2.2.1++i.2.2.2.2))),(1, .arr 1 0 (ir eI i.2.2.1)),(0, .arr 2 0 [[sci .i64 N,lII ls]])]⟩) (fun i=>i.1) (N,0,(List.replicate N (-1)).set 0 0, [], [0]) [] ?_ ?_ ?_
 ·exact⟨⟨_,Bq.init hp⟩,rfl⟩
 ·constructor<;>(try simp (maxSteps:=2000000) (disch:=omega) only [go_sem,simprocAttr,zD,zE,irl1])
 ·rintro⟨f,e,out,pre,q⟩ ⟨⟨d,hB⟩,hG⟩
  simp only at hB hG
  have hlen:=hB.len
  have hqq:=hB.few
  have hle:=hB.le
  ((try refine zW ?_);(try with_reducible exact True.intro))
  cases q with
  | nil=>
    have hG2:out=bfsL N ls:=by rw [←hG];cases f<;>rfl
    rw [hG2] at hlen
    (try simp (maxSteps:=2000000) (disch:=omega) only [go_sem,simprocAttr,zD,zE,hG2,List.take_of_length_le])
  | cons n q=>
    cases f with
    | zero=>simp only [List.length_cons] at hqq;omega
    | succ f=>
      have hBi:=hB.pop
      obtain⟨n0,n1,n2,n3⟩:=hBi.n0
      obtain⟨n,rfl⟩:=Int.eq_ofNat_of_zero_le n0
      simp only [List.length_cons] at hqq
      have hi0:(ir eI (pre++(n:Int)::q))[pre.length]? =some [.p (.sc (.int .i64 n))]:=by rw [ir_get (by simp)];simp [eI]
      have hq1: ¬((q.length:Int)+1=0):=by omega
      (try simp (maxSteps:=2000000) (disch:=omega) only [go_sem,simprocAttr,zD,zE,hi0,hq1])
      (refine at_call 200 ?_;(refine zW ?_;try with_reducible exact True.intro);refine callA_of (Out_spec N n ls (by omega)) zB ?_;((try refine zW ?_);(try with_reducible exact True.intro)))
      ((try refine zO ?_);(try with_reducible exact True.intro))
      (refine walk_trim [2,5,6,7,34,35,36] trivial zL ?_;((try refine zW ?_);(try with_reducible exact True.intro)))
      generalize hos:outs (n:Int) 0 ls=os at *
      have hol:os.length≤30:=by rw [←hos];exact Nat.le_trans (outs_len ls 0) hl
      have hom: ∀l∈os,∃j,∃hj:j < ls.length,l=(j:Int)∧ls[j].1=(n:Int):=fun l h=>by
       rw [←hos] at h
       obtain⟨j,hj,e1,e2⟩:=outs_mem h
       exact⟨j,hj,by rw [e1];simp,e2⟩
      rw [bfsGo,hos] at hG
      refine walk_floop 200 200 (fun i:Nat × Nat × List Int × List Int × List Int=>i.1≤os.length∧(i.2.2.1,i.2.2.2.2)=(os.take i.1).foldl (bstep ls n) (out,q))
       (fun i=>⟨65, [(2, .ptr 0 0 0 0),(5, .ref 1 0 0 N),(6, .ref 2 i.2.1 i.2.2.2.1.length i.2.2.2.2.length),(7,sci .i64 n),(34,lI os),(35,sci .i64 os.length),(36,sci .i64 i.1)], [],3,
        [(2, .arr 1 i.2.1 (ir eI (i.2.2.2.1++i.2.2.2.2))),(1, .arr 1 0 (ir eI i.2.2.1)),(0, .arr 2 0 [[sci .i64 N,lII ls]])]⟩) (fun i=>os.length - i.1) (0,e,out,pre++ [(n:Int)],q) [] ?_ ?_ ?_
      ·simp
      ·constructor<;>(try simp (maxSteps:=2000000) (disch:=omega) only [go_sem,simprocAttr,zD,zE,Int.natCast_zero,List.append_assoc,Nat.add_sub_cancel])
      ·rintro⟨k,e,out2,pre,q2⟩ ⟨hk,hs2⟩
       simp only at hk hs2
       have hBk:=(Bi.all hr (os.take k) (fun l h=>hom l (List.mem_of_mem_take h)) hBi).1
       rw [←hs2] at hBk
       have hlen:=hBk.len
       have hqq:=hBk.few
       simp only at hlen hqq
       ((try refine zW ?_);(try with_reducible exact True.intro))
       by_cases lk:k < os.length
       ·obtain⟨j,hj,e1,e2⟩:=hom os[k] (List.getElem_mem lk)
        obtain⟨_,b0,b1⟩:=hr _ (List.getElem_mem hj)
        obtain⟨_,_,m2,m3⟩:=hBk.n0
        simp only [Int.toNat_natCast] at m2 m3
        have hst:bstep ls n (out2,q2) os[k]=if at' out2 ls[j].2.toNat < 0 then(out2.set ls[j].2.toNat (at' out2 n+1),q2++ [ls[j].2]) else(out2,q2):=by
         simp only [bstep,e1,Int.toNat_natCast]
         simp [List.getD,hj]
        have hnx:(os.take (k+1)).foldl (bstep ls n) (out,q)=bstep ls n (out2,q2) os[k]:=by
         rw [List.take_succ_eq_append_getElem lk,List.foldl_append,←hs2];rfl
        generalize hx:ls[j]=x at *
        obtain⟨xa,xb⟩:=x
        simp only at b0 b1 hst
        obtain⟨b,rfl⟩:=Int.eq_ofNat_of_zero_le b0
        simp only [Int.toNat_natCast] at hst
        have hb:b < out2.length:=by omega
        have hn:n < out2.length:=by omega
        have gb:at' out2 b=out2[b]:=by simp [at',List.getD,hb]
        have gn:at' out2 n=out2[n]:=by simp [at',List.getD,hn]
        have ib:(ir eI out2)[b]? =some [.p (.sc (.int .i64 out2[b]))]:=by rw [ir_get hb];simp [eI]
        have iN:(ir eI out2)[n]? =some [.p (.sc (.int .i64 out2[n]))]:=by rw [ir_get hn];simp [eI]
        rw [gb,gn] at hst
        rw [gn] at m2 m3
        (try simp (maxSteps:=2000000) (disch:=omega) only [go_sem,simprocAttr,zD,zE,eI,e1,hx,eII])
        by_cases hc:out2[b] < 0
        ·rw [if_pos hc] at hst
         (try simp (maxSteps:=2000000) (disch:=omega) only [go_sem,simprocAttr,zD,zE,ib,iN,hc,gb,List.drop_left,Nat.add_sub_cancel_left])
         refine⟨(k+1,e+1,out2.set b (out2[n]+1), [],q2++ [(b:Int)]), [],⟨lk,by simp only;rw [hnx,hst]⟩,by simp only;omega,?_⟩
         constructor<;>((try refine zO ?_);(try with_reducible exact True.intro))
        ·rw [if_neg hc] at hst
         (try simp (maxSteps:=2000000) (disch:=omega) only [go_sem,simprocAttr,zD,zE,ib,hc])
         refine⟨(k+1,e,out2,pre,q2), [],⟨lk,by simp only;rw [hnx,hst]⟩,by simp only;omega,?_⟩
         constructor<;>((try refine zO ?_);(try with_reducible exact True.intro))
       ·obtain rfl:k=os.length:=by omega
        rw [List.take_length] at hs2
        have hN:=hBi.next hr
        rw [hos,←hs2] at hN
        rw [←hs2] at hG
        ((try refine zO ?_);(try with_reducible exact True.intro))
        refine⟨(f,e,out2,pre,q2), [],⟨⟨_,hN⟩,hG⟩,by simp only;omega,?_⟩
        constructor<;>((try refine zO ?_);(try with_reducible exact True.intro))
end Go.Proofs.GY
