/- Facts that the proofs of this claim lean on. -/
import Derived.Test.YtfhhdgkhajkapaaGreatNzFb
import Derived.Test.YtfhhdgkhajkapaaGreatNzS2
set_option linter.unusedSimpArgs false
set_option linter.unusedVariables false
/- A pick of a table: its walk; what a host's pick does. -/
namespace Go.Proofs.NO
open Go Go.Idl Go.Proofs Go.GP
set_option maxHeartbeats 20000000
set_option maxRecDepth 100000
theorem qkI (l:List (Int × Int)) (hn:l.length≤1000000):Pure Tryz.prog 177 [lII l] (lII l):=by
 cases l with
 | nil=>
   refine qah 200 (fn:=Tryz.f177) Tryz.func177 rfl (by simp [Tryz.ntmps177]) zB zB fun hs=>?_
   (try simp only [go_sem,simprocAttr,pr,List.map_nil])
   refine qcI (sz:=2) (rows:= []) rfl (by kernel_rfl) (by decide) fun b hb=>?_
   cases b
   all_goals
    refine vc_sound _ 200 _ _ ?_
    ((try refine zW ?_);(try with_reducible exact True.intro))
 | cons a r=>
   rw [List.length_cons] at hn
   have e:pr eII (a::r)=eII a::pr eII r:=rfl
   refine qah 200 (fn:=Tryz.f177) Tryz.func177 rfl (by simp [Tryz.ntmps177]) zB zB fun hs=>?_
   ((try refine zW ?_);(try with_reducible exact True.intro))
   (try simp (disch:=omega) only [go_sem,simprocAttr,zD,zE,e])
theorem qga (T:List Nd) (n k:Nat) (x:Nd) (s:St) (hx:T[n]? =some x) (hq:x.states[k]? =some s) (i:Int) (hs: ∀p∈s.picks,p.2.length≤1000000):
  Pure Tryz.prog 94 [.p (.imm 2 (pr eNd T)),sci .i64 n,sci .i64 k,sci .i64 i]
   (if i < 0 then .tup [.agg [sci .i64 0,lII []],scb false] else match s.picks[i.toNat]? with | some p=> .tup [.agg [sci .i64 p.1,lII p.2],scb true] | none=> .tup [.agg [sci .i64 0,lII []],scb false]):=by
 have hz:T.length=T.length:=rfl
 by_cases h1:i < 0
 ·rw [if_pos h1]
  refine qah 200 (fn:=Tryz.f94) Tryz.func94 rfl (by simp [Tryz.ntmps94]) zB zB fun hs=>?_
  try refine zW ?_
  (refine qaf 200 ?_;refine zW ?_;refine callA_of (qd5 T n k x s hx hq) zB ?_;((try refine zW ?_);(try with_reducible exact True.intro)))
  (try simp (maxSteps:=2000000) (disch:=omega) only [go_sem,simprocAttr,zD,zE,h1])
 rw [if_neg h1]
 obtain⟨j,rfl⟩:=Int.eq_ofNat_of_zero_le (show 0≤i by omega)
 rw [Int.toNat_natCast]
 by_cases h2:j < s.picks.length
 ·rw [List.getElem?_eq_getElem h2]
  have hp:=hs _ (List.getElem_mem h2)
  generalize hpe:s.picks[j]=p at *
  obtain⟨nx,sn⟩:=p
  simp only at hp ⊢
  refine qah 200 (fn:=Tryz.f94) Tryz.func94 rfl (by simp [Tryz.ntmps94]) zB zB fun hs=>?_
  try refine zW ?_
  (refine qaf 200 ?_;refine zW ?_;refine callA_of (qd5 T n k x s hx hq) zB ?_;((try refine zW ?_);(try with_reducible exact True.intro)))
  try refine zO ?_
  (refine walk_trim [3,8,10,208] trivial zL ?_;refine zW ?_;refine irun_walk (id:=4) (n:=200) [none,none,none,none,none,none,none,none,none,none,none,none,some [0,1,2,3,4,5],none,some [],none] qan (by kernel_rfl) ?_)
  (try simp (maxSteps:=2000000) (disch:=omega) only [go_sem,simprocAttr,zD,zE,ePk,hpe])
  (refine at_dcall ?_;refine zW ?_;refine callA_of (qkI sn hp) zB ?_;((try refine zW ?_);(try with_reducible exact True.intro)))
  ((try refine zO ?_);(try with_reducible exact True.intro))
 ·rw [List.getElem?_eq_none (by omega)]
  simp only
  refine qah 200 (fn:=Tryz.f94) Tryz.func94 rfl (by simp [Tryz.ntmps94]) zB zB fun hs=>?_
  try refine zW ?_
  (refine qaf 200 ?_;refine zW ?_;refine callA_of (qd5 T n k x s hx hq) zB ?_;((try refine zW ?_);(try with_reducible exact True.intro)))
  ((try refine zO ?_);(try with_reducible exact True.intro))
def pkGo (ls:List (Int × Int)) (n:Int):List (Int × Int)→List (List Int)→List (Int × Int × Int)→Option (List (List Int) × List (Int × Int × Int))
 | [],out,sent=>some (out,sent)
 | s::r,out,sent=>
   if 500≤((out[(qax (qat n s.1 0 ls) 0 (outs n 0 ls)).toNat]?).getD []).length then none
   else pkGo ls n r (out.set (qax (qat n s.1 0 ls) 0 (outs n 0 ls)).toNat ((out[(qax (qat n s.1 0 ls) 0 (outs n 0 ls)).toNat]?).getD []++ [s.2]))
    (sent++ [(qat n s.1 0 ls,(((out[(qax (qat n s.1 0 ls) 0 (outs n 0 ls)).toNat]?).getD []).length:Int)+1,s.2)])
abbrev lSt3 (l:List (Int × Int × Int)):IV:= .p (.imm 3 (pr eIII l))
def zHs:Hs:=⟨0,0,0, [], []⟩
def qfY (ls:List (Int × Int)) (st:St) (h:Hs) (k:Int):Hs × List (Int × Int × Int) × Int:=
 if st.mode≠1 then(zHs, [],8)
 else if k < 0 then(zHs, [],3)
 else match st.picks[k.toNat]? with
 | none=>(zHs, [],3)
 | some p=>match pkGo ls h.node p.2 h.out [] with
   | none=>(zHs, [],2)
   | some (out,sent)=>(⟨h.node,p.1,h.steps+1,h.inn,out⟩,sent,0)
abbrev qlp (r:Hs × List (Int × Int × Int) × Int):IV:= .tup [lHs r.1,lSt3 r.2.1,sci .i64 r.2.2]
theorem qo4 {n to:Int} {ls:List (Int × Int)} (h:(n,to)∈ls): ∃q:Nat,qax (qat n to 0 ls) 0 (outs n 0 ls)=(q:Int)∧q < (outs n 0 ls).length:=by
 obtain⟨j,hj,e,e2⟩:=qcG (qbn (s:=0).2 h)
 have hm:qat n to 0 ls∈outs n 0 ls:=by
  rw [e]
  exact qdA hj (by rw [e2])
 have h0:=qeE (i:=0).2 hm
 rcases indexL_at (qat n to 0 ls) (outs n 0 ls) with h1 | ⟨q,h1,h2,_⟩
 ·omega
 ·exact⟨q,h1,h2⟩
def νH (i:Nat):Nat:=match i with
 | 0=>4
 | i+1=>1000+i
theorem qmH (s:Sc) (h:Hs) (k:Int) (n j:Nat) (x:Nd) (st:St) (hn:h.node=n) (hj:h.state=j) (hx:s.T[n]? =some x) (hq:x.states[j]? =some st) (hg:gHs h) (hl:s.ls.length≤1000000)
  (hp: ∀p∈st.picks,p.2.length≤1000000∧ ∀y∈p.2,(h.node,y.1)∈s.ls) (ho:h.out.length=(outs h.node 0 s.ls).length) (h0:0≤h.steps∧h.steps≤2147483647):
  Pure Tryz.prog 27 [lApp s,lHs h,sci .i64 k] (qlp (qfY s.ls st h k)):=by
 obtain⟨N,ls,T,ff,room,acts⟩:=s
 obtain⟨node,state,steps,inn,out⟩:=h
 obtain⟨b2,b3,b4,b5⟩:=id hg
 simp only at hn hj hx hl ho h0 b2 b3 b4 b5 hp
 subst hn hj
 have hPk:=qga T n j x st hx hq k fun p hp'=>(hp p hp').1
 generalize hres:qfY ls st ⟨n,j,steps,inn,out⟩ k=res
 unfold qfY at hres
 simp only at hres
 refine qah 200 (fn:=Tryz.f27) Tryz.func27 rfl (by simp [Tryz.ntmps27]) zB zB fun hs=>?_
 try refine zW ?_
 (refine qaf 200 ?_;refine zW ?_;refine callA_of (qhR T n j x st hx hq) zB ?_;((try refine zW ?_);(try with_reducible exact True.intro)))
 by_cases h1:st.mode=1
 rotate_left
 ·rw [if_pos h1] at hres
  subst hres
  (try simp (maxSteps:=2000000) (disch:=omega) only [go_sem,simprocAttr,zD,zE,h1,zHs])
 rw [if_neg (fun q=>q h1)] at hres
 (try simp (maxSteps:=2000000) (disch:=omega) only [go_sem,simprocAttr,zD,zE,h1])
 by_cases h2:k < 0
 ·rw [if_pos h2] at hres hPk
  subst hres
  (refine qaf 200 ?_;refine zW ?_;refine callA_of (hPk) zB ?_;((try refine zW ?_);(try with_reducible exact True.intro)))
  (try simp (maxSteps:=2000000) (disch:=omega) only [go_sem,simprocAttr,zD,zE,zHs])
 rw [if_neg h2] at hres hPk
 cases h3:st.picks[k.toNat]? with
 | none=>
   rw [h3] at hres hPk
   subst hres
   (refine qaf 200 ?_;refine zW ?_;refine callA_of (hPk) zB ?_;((try refine zW ?_);(try with_reducible exact True.intro)))
   (try simp (maxSteps:=2000000) (disch:=omega) only [go_sem,simprocAttr,zD,zE,zHs])
 | some p=>
   obtain⟨hpl,hpm⟩:=hp p (List.mem_of_getElem? h3)
   rw [h3] at hres hPk
   obtain⟨nxt,sends⟩:=p
   simp only at hpl hpm hres hPk
   (refine qaf 200 ?_;refine zW ?_;refine callA_of (hPk) zB ?_;((try refine zW ?_);(try with_reducible exact True.intro)))
   try refine zO ?_
   refine at_gN 200 νH 3000000 (qm4 ⟨n,j,steps,inn,out⟩ hg rfl) ?_ ?_ (by omega) ?_
   ·rintro(_ | a) (_ | b) ha hb e
    ·rfl
    ·simp only [νH] at e;omega
    ·simp only [νH] at e;omega
    ·simp only [νH] at e;omega
   ·have:(⟨n,j,steps,inn,out⟩:Hs).out.length=out.length:=rfl
    rintro(_ | a) ha
    ·simp only [νH];omega
    ·simp only [νH];omega
   have e0:νH 0=4:=rfl
   have eL:rnL νH (qai 1 (famB 1 eI (qae out)))=qai 1000 (famB 1 eI (qae out)):=qdr fun i _=>by show νH (1+i)=_;rw [Nat.add_comm];rfl
   have eR:rnRw νH (qak 1 (qae out))=qak 1000 (qae out):=qbV fun i _=>by show νH (1+i)=_;rw [Nat.add_comm];rfl
   have eF:=qaT out
   (try simp (maxSteps:=2000000) (disch:=omega) only [go_sem,simprocAttr,zD,zE,e0,eL,eR,qaV,eF])
   refine qbk 12 3 trivial rfl (.inr rfl) ?_
   clear hPk eL eR e0
   have hfm:(qae out).map (·.2)=out:=by rw [qae,List.map_map];exact List.map_id' _
   refine qal 0 200 (fun i:Nat × List (Nat × List Int) × Nat × List (Int × Int × Int)=>i.1≤sends.length∧i.2.1.length=out.length∧i.2.2.2.length=i.1∧pkGo ls n (sends.drop i.1) (i.2.1.map (·.2)) i.2.2.2=pkGo ls n sends out [])
    (fun i=>⟨108, [(3, .ptr 0 0 0 0),(4, .ptr 1 0 0 0),(6, .ptr 2 0 0 0),(9, .ptr 3 0 0 0),(11, .ptr 3000000 0 0 0),(12, .ref 3000001 i.2.2.1 0 i.2.2.2.length),(43,lII sends),(44,sci .i64 sends.length),(45,sci .i64 i.1)], [],3000002,
     (3000001, .arr 3 i.2.2.1 (ir eIII i.2.2.2))::(3000000, .arr 5 0 [[sci .i64 n,sci .i64 j,sci .i64 steps,lMs inn, .ref 4 out.length 0 out.length]])::(4, .arr 1 out.length (qak 1000 i.2.1))::(3, .arr 2 0 [[sci .i64 nxt,lII sends]])::
     (2, .arr 5 0 [[sci .i64 0,sci .i64 0,sci .i64 0,nil0,nil0]])::(1, .arr 5 0 [[sci .i64 n,sci .i64 j,sci .i64 steps,lMs inn,lLs out]])::(0, .arr 4 0 [[sci .i64 N,lII ls, .p (.imm 2 (pr eNd T)),scb ff]])::qai 1000 (famB 1 eI i.2.1)⟩)
    (fun i=>sends.length - i.1) (0,qae out,0, []) [] ?_ ?_ ?_
   ·exact⟨by simp,eF,rfl,by rw [hfm];rfl⟩
   ·constructor
    case blks=>
     (try simp (maxSteps:=2000000) (disch:=omega) only [go_sem,simprocAttr,zD,zE,qaV,eF])
     refine qb5 (.inl rfl) fun i hi=>?_
     have hi':=hi
     rw [eF] at hi'
     (try simp (maxSteps:=2000000) (disch:=omega) only [go_sem,simprocAttr,zD,zE,qaW])
    all_goals(try simp (maxSteps:=2000000) (disch:=omega) only [go_sem,simprocAttr,zD,zE,Int.natCast_zero])
   ·rintro⟨i,cur,gs,sent⟩ ⟨i1,i2,i4,i3⟩
    simp only at i1 i2 i4 i3
    have hrl:(qak 1000 cur).length=cur.length:=qbA
    by_cases li:i < sends.length
    ·have hm:=hpm _ (List.getElem_mem li)
     rw [List.drop_eq_getElem_cons li,pkGo] at i3
     generalize hz:sends[i]=z at *
     obtain⟨to,lt⟩:=z
     simp only at hm i3
     obtain⟨q,hq1,hq2⟩:=qo4 hm
     generalize hf:qat n to 0 ls=f at *
     rw [hq1,Int.toNat_natCast] at i3
     have lq:q < cur.length:=by omega
     have hcq:(cur.map (·.2))[q]? =some cur[q].2:=by rw [List.getElem?_map,List.getElem?_eq_getElem lq];rfl
     have hcs: ∀v:List Int,∀g:Nat,(cur.set q (g,v)).map (·.2)=(cur.map (·.2)).set q v:=fun v g=>by rw [List.map_set]
     rw [hcq,Option.getD_some] at i3
     have hrg:(qak 1000 cur)[q]? =some [.ref (1000+q) cur[q].1 0 cur[q].2.length]:=qcz lq
     have hrs: ∀x:Nat × List Int,(qak 1000 cur).set q [.ref (1000+q) x.1 0 x.2.length]=qak 1000 (cur.set q x):=fun x=>qfy lq
     have hlk: ∀r,Idl.look (qai 1000 (famB 1 eI cur)++r) (1000+q)=some (.arr 1 cur[q].1 (ir eI cur[q].2)):=fun r=>qaW lq
     have hlk0:Idl.look (qai 1000 (famB 1 eI cur)) (1000+q)=some (.arr 1 cur[q].1 (ir eI cur[q].2)):=by have:=hlk [];rwa [List.append_nil] at this
     generalize ho2:cur[q]=o at *
     obtain⟨go,o⟩:=o
     simp only at i3 hrg hlk hlk0
     by_cases h500:500≤o.length
     ·rw [if_pos h500] at i3
      rw [←i3] at hres
      simp only at hres
      subst hres
      clear i3 hcs hrs hcq
      ((try refine zW ?_);(try with_reducible exact True.intro))
      (try simp (maxSteps:=2000000) (disch:=omega) only [go_sem,simprocAttr,zD,zE,eII,hz])
      (refine qaf 200 ?_;refine zW ?_;refine callA_of (qdG N n to ls hl) zB ?_;((try refine zW ?_);(try with_reducible exact True.intro)))
      (try simp (maxSteps:=2000000) (disch:=omega) only [go_sem,simprocAttr,zD,zE,hf])
      (refine qaf 200 ?_;refine zW ?_;refine callA_of (qcO N n ls hl) zB ?_;((try refine zW ?_);(try with_reducible exact True.intro)))
      try refine zO ?_
      (refine qaf 200 ?_;refine zW ?_;refine callA_of (qcC _ _) zB ?_;((try refine zW ?_);(try with_reducible exact True.intro)))
      (try simp (maxSteps:=2000000) (disch:=omega) only [go_sem,simprocAttr,zD,zE,hq1,hrg,zHs])
     ·rw [if_neg h500] at i3
      have hcur: ∀g,(List.map (fun x=>x.snd) cur).set q (o++ [lt])=(cur.set q (g,o++ [lt])).map (·.2):=fun g=>(hcs _ g).symm
      rw [hcur (go+1)] at i3
      have hset:(qak 1000 cur).set q [.ref (1000+q) (go+1) 0 (o.length+1)]=qak 1000 (cur.set q (go+1,o++ [lt])):=by
       have:=hrs (go+1,o++ [lt])
       rwa [show(go+1,o++ [lt]).2.length=o.length+1 by simp] at this
      have hgs:(qak 1000 (cur.set q (go+1,o++ [lt])))[q]? =some [.ref (1000+q) (go+1) 0 (o.length+1)]:=by
       have:=qcz (xs:=cur.set q (go+1,o++ [lt])) (k:=1000) (i:=q) (by rw [List.length_set];exact lq)
       simpa using this
      clear hcs hrs hcq hcur
      ((try refine zW ?_);(try with_reducible exact True.intro))
      (try simp (maxSteps:=2000000) (disch:=omega) only [go_sem,simprocAttr,zD,zE,eII,hz])
      (refine qaf 200 ?_;refine zW ?_;refine callA_of (qdG N n to ls hl) zB ?_;((try refine zW ?_);(try with_reducible exact True.intro)))
      (try simp (maxSteps:=2000000) (disch:=omega) only [go_sem,simprocAttr,zD,zE,hf])
      (refine qaf 200 ?_;refine zW ?_;refine callA_of (qcO N n ls hl) zB ?_;((try refine zW ?_);(try with_reducible exact True.intro)))
      try refine zO ?_
      (refine qaf 200 ?_;refine zW ?_;refine callA_of (qcC _ _) zB ?_;((try refine zW ?_);(try with_reducible exact True.intro)))
      (try simp (maxSteps:=2000000) (disch:=omega) only [go_sem,simprocAttr,zD,zE,hq1,hrg])
      (refine walk_trim [3,4,6,9,11,12,14,15,16,43,44,45] trivial zL ?_;refine zW ?_;refine irun_walk (id:=15) (n:=200) [none,none,none,none,none,none,none,none,none,none,some [0,1,2,3,4,5,6,7],some [0,1,2],none,some []] qan (by kernel_rfl) ?_)
      (try simp (maxSteps:=2000000) (disch:=omega) only [go_sem,simprocAttr,zD,zE,hrg,hlk0,hset])
      refine⟨by omega,?_⟩
      generalize hcur:cur.set q (go+1,o++ [lt])=cur' at *
      have hcl:cur'.length=cur.length:=by rw [←hcur,List.length_set]
      refine qc8 200 [] ⟨108, [(3, .ptr 0 0 0 0),(4, .ptr 1 0 0 0),(6, .ptr 2 0 0 0),(9, .ptr 3 0 0 0),(11, .ptr 3000000 0 0 0),(12, .ref 3000001 gs 0 sent.length),(14, .ptr 3000002 0 0 0),(15,sci .i64 f),(16,sci .i64 q),(43,lII sends),(44,sci .i64 sends.length),(45,sci .i64 i)], [],3000003,
       (3000002, .arr 2 0 [[sci .i64 to,sci .i64 lt]])::(3000001, .arr 3 gs (ir eIII sent))::(3000000, .arr 5 0 [[sci .i64 n,sci .i64 j,sci .i64 steps,lMs inn, .ref 4 out.length 0 out.length]])::(4, .arr 1 out.length (qak 1000 cur'))::(3, .arr 2 0 [[sci .i64 nxt,lII sends]])::
       (2, .arr 5 0 [[sci .i64 0,sci .i64 0,sci .i64 0,nil0,nil0]])::(1, .arr 5 0 [[sci .i64 n,sci .i64 j,sci .i64 steps,lMs inn,lLs out]])::(0, .arr 4 0 [[sci .i64 N,lII ls, .p (.imm 2 (pr eNd T)),scb ff]])::qai 1000 (famB 1 eI cur')⟩ trivial ?_ ?_
      ·have f0: ¬1000+q=3000000:=by omega
       have f1: ¬1000+q=3000001:=by omega
       have f2: ¬1000+q=3000002:=by omega
       have f3: ¬1000+q=3:=by omega
       have f4: ¬1000+q=2:=by omega
       have f5: ¬1000+q=1:=by omega
       have f6: ¬1000+q=0:=by omega
       constructor
       case blks=>
        (try simp (maxSteps:=2000000) only [go_sem,simprocAttr,f0,f1,f2,f3,f4,f5,f6])
        rw [←hcur]
        refine qe5 (.inl rfl) ?_ fun j hj hne=>?_
        ·have: ¬4=1000+q:=by omega
         (try simp (maxSteps:=2000000) only [go_sem,simprocAttr,this])
        ·have e1: ¬4=1000+j:=by omega
         have e2: ¬q=j:=fun e=>hne e.symm
         have e3: ¬1000+q=1000+j:=by omega
         have e4: ¬3000002=1000+j:=by omega
         have e5: ¬3000001=1000+j:=by omega
         have e6: ¬3000000=1000+j:=by omega
         have e7: ¬3=1000+j:=by omega
         have e8: ¬2=1000+j:=by omega
         have e9: ¬1=1000+j:=by omega
         have e10: ¬0=1000+j:=by omega
         have:=qaW (sz:=1) (e:=eI) (k:=1000) (r:= []) hj
         rw [List.append_nil] at this
         (try simp (maxSteps:=2000000) only [go_sem,simprocAttr,e1,e2,e3,e4,e5,e6,e7,e8,e9,e10,this])
       all_goals((try refine zW ?_);(try with_reducible exact True.intro))
      clear hset hrg hlk hlk0
      try refine zW ?_
      (refine walk_trim [3,4,6,9,11,12,14,15,16,43,44,45] trivial zL ?_;refine zW ?_;refine irun_walk (id:=16) (n:=200) [none,none,none,none,none,none,none,none,none,none,none,none,some [0],some [],none] qan (by kernel_rfl) ?_)
      (try simp (maxSteps:=2000000) (disch:=omega) only [go_sem,simprocAttr,zD,zE,hgs])
      refine⟨(i+1,cur',gs+1,sent++ [(f,(o.length:Int)+1,lt)]), [],⟨li,by simp only;omega,by simp only [List.length_append,List.length_cons,List.length_nil];omega,i3⟩,by simp only;omega,?_⟩
      constructor
      case blks=>
       (try simp (maxSteps:=2000000) only [go_sem,simprocAttr,ir_snoc,eIII,List.map_cons,List.map_nil])
       refine⟨qbh (by omega),qb5 (.inr (by show 1000+cur'.length≤3000002;omega)) fun j hj=>?_⟩
       have e4: ¬3000002=1000+j:=by omega
       have e5: ¬3000001=1000+j:=by omega
       have e6: ¬3000000=1000+j:=by omega
       have e7: ¬3=1000+j:=by omega
       have e8: ¬2=1000+j:=by omega
       have e9: ¬1=1000+j:=by omega
       have e10: ¬0=1000+j:=by omega
       have e1: ¬4=1000+j:=by omega
       have:=qaW (sz:=1) (e:=eI) (k:=1000) (r:= []) hj
       rw [List.append_nil] at this
       (try simp (maxSteps:=2000000) only [go_sem,simprocAttr,e1,e4,e5,e6,e7,e8,e9,e10,this])
      all_goals(try simp (maxSteps:=2000000) (disch:=omega) only [go_sem,simprocAttr,zD,zE,ir_snoc])
    ·obtain rfl:i=sends.length:=by omega
     rw [List.drop_length,pkGo] at i3
     rw [←i3] at hres
     simp only at hres
     subst hres
     clear i3
     try refine zO ?_
     rw [qem]
     refine qc8 200 (List.range' 1000 out.length) ⟨108, [(3, .ptr 0 0 0 0),(4, .ptr 1 0 0 0),(6, .ptr 2 0 0 0),(9, .ptr 3 0 0 0),(11, .ptr 3000000 0 0 0),(12, .ref 3000001 gs 0 sent.length)], [],3000002,
      [(3000001, .arr 3 gs (ir eIII sent)),(3000000, .arr 5 0 [[sci .i64 n,sci .i64 j,sci .i64 steps,lMs inn, .ref 4 out.length 0 out.length]]),(4, .arr 1 out.length (ir eLs (cur.map (·.2)))),(3, .arr 2 0 [[sci .i64 nxt,lII sends]]),
      (2, .arr 5 0 [[sci .i64 0,sci .i64 0,sci .i64 0,nil0,nil0]]),(1, .arr 5 0 [[sci .i64 n,sci .i64 j,sci .i64 steps,lMs inn,lLs out]]),(0, .arr 4 0 [[sci .i64 N,lII ls, .p (.imm 2 (pr eNd T)),scb ff]])]⟩ trivial ?_ ?_
     ·constructor
      case gone=>
       refine qjV (fun b hb=>Nat.zero_le _) fun p hp hb=>?_
       rw [List.mem_range'_1] at hb
       simp only [List.mem_cons,List.not_mem_nil,or_false] at hp
       rcases hp with rfl | rfl | rfl | rfl | rfl | rfl | rfl<;>(simp only at hb;omega)
      case blks=>
       try refine zW ?_
       refine qgU (e:=eI) (sz:=1) (fun l=>rfl) fun j hj=>⟨by rw [List.mem_range'_1];omega,?_⟩
       have e1: ¬4=1000+j:=by omega
       have e5: ¬3000001=1000+j:=by omega
       have e6: ¬3000000=1000+j:=by omega
       have e7: ¬3=1000+j:=by omega
       have e8: ¬2=1000+j:=by omega
       have e9: ¬1=1000+j:=by omega
       have e10: ¬0=1000+j:=by omega
       have:=qaW (sz:=1) (e:=eI) (k:=1000) (r:= []) hj
       rw [List.append_nil] at this
       (try simp (maxSteps:=2000000) only [go_sem,simprocAttr,e1,e5,e6,e7,e8,e9,e10,this])
      all_goals((try refine zW ?_);(try with_reducible exact True.intro))
     have hcl:(cur.map (·.2)).length=out.length:=by rw [List.length_map];omega
     have htk:(ir eLs (cur.map (·.2))).take out.length=ir eLs (cur.map (·.2)):=List.take_of_length_le (by simp [ir];omega)
     generalize cur.map (·.2)=outv at *
     clear hrl i2
     (try simp (maxSteps:=2000000) (disch:=omega) only [go_sem,simprocAttr,zD,zE,htk])
end Go.Proofs.NO
