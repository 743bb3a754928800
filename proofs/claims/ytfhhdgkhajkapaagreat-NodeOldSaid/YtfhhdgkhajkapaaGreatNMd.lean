/- Facts that the proofs of this claim lean on. -/
import Derived.Test.YtfhhdgkhajkapaaGreatNGb
import Derived.Test.YtfhhdgkhajkapaaGreatIdRn
import Derived.Test.YtfhhdgkhajkapaaGreatGPm
import Derived.Test.YtfhhdgkhajkapaaGreatIdAz
import Derived.Test.YtfhhdgkhajkapaaGreatIdRc
import Derived.Test.YtfhhdgkhajkapaaGreatNzCl
set_option linter.unusedSimpArgs false
set_option linter.unusedVariables false
/- The document on tables: which may be. -/
namespace Go.Proofs.NO
open Go Go.Idl Go.Proofs Go.GP Go.Proofs.Tryz
set_option maxHeartbeats 20000000
set_option maxRecDepth 100000
abbrev stB (s:St):IBlk:= .arr 4 0 [[sci .i64 s.mode,lI s.waits, .p (.imm 2 (pr ePk s.picks)), .p (.imm 3 (pr eIII s.takes))]]
abbrev grB (N:Int) (ls:List (Int × Int)):IBlk:= .arr 2 0 [[sci .i64 N,lII ls]]
theorem qi8 (l:List Int) (a:Int) (hk:l.length≤1000000):Pure prog 39 [lI l,sci .i64 a] (scb (tB (a∈l))):=by
 generalize hr:tB (a∈l)=r
 refine pcall0 200 (fn:=f39) func39 rfl (by simp [ntmps39]) zB zB fun hs=>?_
 try refine zW ?_
 refine qan 200 200 (fun i:Nat=>i≤l.length∧ ∀j w,j < i→l[j]? =some w→w≠a) (fun i=>⟨18, [(0,lI l),(1,sci .i64 a),(5,sci .i64 i)], [],0, []⟩) (fun i=>l.length - i) 0 ⟨Nat.zero_le _,fun j w h=>by omega⟩ ?_ ?_
 ·constructor<;>(try simp (disch:=omega) only [go_sem,simprocAttr,zD,zE,Int.natCast_zero])
 ·rintro i ⟨hi,hp⟩
  try refine zW ?_
  by_cases li:i < l.length
  ·(try simp (disch:=omega) only [go_sem,simprocAttr,zD,zE,eI])
   by_cases hc:l[i]=a
   ·have e:r=true:=by rw [←hr];exact qal (hc ▸List.getElem_mem li)
    (try simp (disch:=omega) only [go_sem,simprocAttr,zD,zE,hc,e])
   ·have hc2:(l[i]==a)=false:=by rw [beq_eq_false_iff_ne];exact hc
    (try simp (disch:=omega) only [go_sem,simprocAttr,zD,zE,hc2])
    refine⟨i+1,⟨li,qa0 li hp hc⟩,by omega,?_⟩
    constructor<;>((try refine zO ?_);(try with_reducible exact True.intro))
  ·have e:r=false:=by
    rw [←hr]
    refine qaf fun h=>?_
    obtain⟨j,hj,e⟩:=List.getElem_of_mem h
    exact hp j _ (by omega) (List.getElem?_eq_getElem hj) e
   (try simp (disch:=omega) only [go_sem,simprocAttr,zD,zE,e])
def qhb (s to:St) (but:Int):Prop:= ∀(j:Nat) (w:Int),s.waits[j]? =some w→w≠but→to.mode=2∧w∈to.waits
theorem qmT (s to:St) (but:Int) (h1:s.waits.length≤1000000) (h2:to.waits.length≤1000000):Pure prog 167 [lSt s,lSt to,sci .i64 but] (scb (tB (qhb s to but))):=by
 generalize hr:tB (qhb s to but)=r
 have no: ∀(j:Nat) (w:Int),s.waits[j]? =some w→w≠but→ ¬(to.mode=2∧w∈to.waits)→r=false:=fun j w h1 h2 h3=>by
  rw [←hr];exact qaf fun h=>h3 (h j w h1 h2)
 refine pcall0 200 (fn:=f167) func167 rfl (by simp [ntmps167]) zB zB fun hs=>?_
 try refine zW ?_
 refine qan 200 200 (fun i:Nat=>i≤s.waits.length∧ ∀j w,j < i→s.waits[j]? =some w→w≠but→to.mode=2∧w∈to.waits)
  (fun i=>⟨38, [(2,sci .i64 but),(3, .ptr 0 0 0 0),(4, .ptr 1 0 0 0),(7,sci .i64 i)], [],2, [(1,stB to),(0,stB s)]⟩) (fun i=>s.waits.length - i) 0 ⟨Nat.zero_le _,fun j w h=>by omega⟩ ?_ ?_
 ·constructor<;>(try simp (disch:=omega) only [go_sem,simprocAttr,zD,zE,Int.natCast_zero])
 ·rintro i ⟨hi,hp⟩
  try refine zW ?_
  by_cases li:i < s.waits.length
  ·have gi:=List.getElem?_eq_getElem li
   try refine zO ?_
   (refine zM [2,3,4,7] ?_;refine zI [none,none,none,none,none,none,none,none,none,none,none,none,none,none,none,none,none,none,none,some [],none,none,none] ?_)
   (try simp (disch:=omega) only [go_sem,simprocAttr,zD,zE,eI])
   by_cases hc:s.waits[i]=but
   ·(try simp (disch:=omega) only [go_sem,simprocAttr,zD,zE,hc])
    refine⟨i+1,⟨li,qa0 li hp fun h=>absurd hc h⟩,by omega,?_⟩
    constructor<;>((try refine zO ?_);(try with_reducible exact True.intro))
   ·have hc2:(s.waits[i]==but)=false:=by rw [beq_eq_false_iff_ne];exact hc
    by_cases hm:to.mode=2
    ·(try simp (disch:=omega) only [go_sem,simprocAttr,zD,zE,hc2,hm,eI])
     (refine zF ?_;refine callA_of (qi8 to.waits s.waits[i] h2) zB ?_;try refine zW ?_)
     by_cases hw:s.waits[i]∈to.waits
     ·(try simp (disch:=omega) only [go_sem,simprocAttr,zD,zE,qal hw])
      refine⟨i+1,⟨li,qa0 li (fun j w a b c=>(hp j w a b c).2) fun _=>hw⟩,by omega,?_⟩
      constructor<;>((try refine zO ?_);(try with_reducible exact True.intro))
     ·have e:=no i _ gi hc fun h=>hw h.2
      (try simp (disch:=omega) only [go_sem,simprocAttr,zD,zE,qaf hw,e])
    ·have e:=no i _ gi hc fun h=>hm h.1
     have hm2:(to.mode==2)=false:=by rw [beq_eq_false_iff_ne];exact hm
     (try simp (disch:=omega) only [go_sem,simprocAttr,zD,zE,hc2,hm2,e])
  ·have e:r=true:=by
    rw [←hr]
    obtain rfl:i=s.waits.length:=by omega
    exact qal (all_end hp)
   (try simp (disch:=omega) only [go_sem,simprocAttr,zD,zE,e])
theorem qkP (s:St) (n N:Int) (ls:List (Int × Int)) (hl:ls.length≤1000000) (hw:s.waits.length≤1000000):Pure prog 79 [lSt s,sci .i64 n,eG N ls] (scb (tB (qft ls n s))):=by
 generalize hr:tB (qft ls n s)=r
 refine pcall0 200 (fn:=f79) func79 rfl (by simp [ntmps79]) zB zB fun hs=>?_
 try refine zW ?_
 by_cases hm:s.mode=2
 ·have hm2:(s.mode==2)=true:=by rw [beq_iff_eq];exact hm
  have no: ∀(j:Nat) (w:Int),s.waits[j]? =some w→ ¬((w,n)∈ls∧ ∀v,0 < j→s.waits[j - 1]? =some v→v < w)→r=false:=fun j w h1 h3=>by
   rw [←hr]
   refine qaf fun h=>?_
   rcases h with h | h
   ·exact h.1 hm
   ·exact h3 (h.2.2 j w h1)
  (try simp (disch:=omega) only [go_sem,simprocAttr,zD,zE,hm2])
  refine qan 200 200 (fun i:Nat=>i≤s.waits.length∧ ∀j w,j < i→s.waits[j]? =some w→(w,n)∈ls∧ ∀v,0 < j→s.waits[j - 1]? =some v→v < w)
   (fun i=>⟨53, [(1,sci .i64 n),(3, .ptr 0 0 0 0),(5, .ptr 1 0 0 0),(7,sci .i64 i)], [],2, [(1,grB N ls),(0,stB s)]⟩) (fun i=>s.waits.length - i) 0 ⟨Nat.zero_le _,fun j w h=>by omega⟩ ?_ ?_
  ·constructor<;>(try simp (disch:=omega) only [go_sem,simprocAttr,zD,zE,Int.natCast_zero])
  ·rintro i ⟨hi,hp⟩
   try refine zW ?_
   by_cases li:i < s.waits.length
   ·have gi:=List.getElem?_eq_getElem li
    try refine zO ?_
    (refine zM [1,3,5,7] ?_;refine zI [none,none,none,none,none,none,none,some [],none,none,none,none,none,none,none,none,none,none,none,none,none,none,none,none,none,none,none] ?_)
    (try simp (disch:=omega) only [go_sem,simprocAttr,zD,zE,eI])
    (refine zF ?_;refine callA_of (qb4 _ _ _ _ hl) zB ?_;try refine zW ?_)
    by_cases hin:(s.waits[i],n)∈ls
    ·have hf: ¬qaF s.waits[i] n 0 ls < 0:=by have:=qcg (s:=0).2 hin;omega
     (try simp (disch:=omega) only [go_sem,simprocAttr,zD,zE,hf])
     cases i with
     | zero=>
       (try simp (disch:=omega) only [go_sem,simprocAttr,zD,zE,Int.natCast_zero])
       refine⟨1,⟨li,qa0 li hp ⟨hin,fun v h=>by omega⟩⟩,by omega,?_⟩
       constructor<;>(try simp (disch:=omega) only [go_sem,simprocAttr,zD,zE,Int.natCast_one])
     | succ i=>
       have li2:i < s.waits.length:=by omega
       have tn:((i:Int)+1).toNat=i+1:=rfl
       have g2:(pr eI s.waits)[i]? =some (eI s.waits[i]):=qdJ (List.getElem?_eq_getElem li2)
       have g1:(pr eI s.waits)[i+1]? =some (eI s.waits[i+1]):=qdJ gi
       (try simp (disch:=omega) only [go_sem,simprocAttr,zD,zE,tn,g1,g2,eI,Int.add_sub_cancel])
       by_cases hlt:s.waits[i+1]≤s.waits[i]
       ·have e:=no (i+1) _ gi fun h=>by
         have:=h.2 s.waits[i] (by omega) (by simp)
         omega
        (try simp (disch:=omega) only [go_sem,simprocAttr,zD,zE,hlt,e])
       ·(try simp (disch:=omega) only [go_sem,simprocAttr,zD,zE,hlt])
        refine⟨i+1+1,⟨li,qa0 li hp ⟨hin,fun v _ hv=>?_⟩⟩,by omega,?_⟩
        ·simp only [Nat.add_sub_cancel] at hv
         rw [List.getElem?_eq_getElem li2] at hv
         cases hv;omega
        ·constructor<;>(try simp (disch:=omega) only [go_sem,simprocAttr,zD,zE,Int.natCast_add,Int.natCast_one])
         all_goals omega
    ·have hf:qaF s.waits[i] n 0 ls < 0:=by
      rcases Int.lt_or_le (qaF s.waits[i] n 0 ls) 0 with h | h
      ·exact h
      ·exact absurd (qcg.1 h) hin
     have e:=no i _ gi fun h=>hin h.1
     (try simp (disch:=omega) only [go_sem,simprocAttr,zD,zE,hf,e])
   ·obtain rfl:i=s.waits.length:=by omega
    by_cases h0:1≤s.waits.length
    ·have e:r=true:=by rw [←hr];exact qal (.inr ⟨hm,h0,all_end hp⟩)
     have h0':(1:Int)≤(s.waits.length:Int):=by omega
     (try simp (disch:=omega) only [go_sem,simprocAttr,zD,zE,h0',e])
    ·have e:r=false:=by rw [←hr];exact qaf fun h=>h.elim (fun h=>h.1 hm) fun h=>h0 h.2.1
     have h0': ¬(1:Int)≤(s.waits.length:Int):=by omega
     (try simp (disch:=omega) only [go_sem,simprocAttr,zD,zE,h0',e])
 ·have hm2:(s.mode==2)=false:=by rw [beq_eq_false_iff_ne];exact hm
  have e:r=((s.waits.length:Int)==0):=by
   rw [←hr]
   by_cases h0:s.waits.length=0
   ·rw [qal (.inl ⟨hm,h0⟩)];symm;rw [beq_iff_eq];omega
   ·rw [qaf fun h=>h.elim (fun h=>h0 h.2) fun h=>hm h.1];symm;rw [beq_eq_false_iff_ne];omega
  (try simp (disch:=omega) only [go_sem,simprocAttr,zD,zE,hm2,e])
theorem qkN (s:St) (n:Int) (m:Nat) (N:Int) (ls:List (Int × Int)) (hl:ls.length≤1000000):Pure prog 80 [lSt s,sci .i64 n,sci .i64 (m:Int),eG N ls] (scb (tB (qfr ls n m s))):=by
 generalize hr:tB (qfr ls n m s)=r
 refine pcall0 200 (fn:=f80) func80 rfl (by simp [ntmps80]) zB zB fun hs=>?_
 try refine zW ?_
 by_cases h4:s.picks.length≤4
 ·have h4': ¬(4:Int) < (s.picks.length:Int):=by omega
  have hmode:(s.mode=1∨s.picks.length=0)∨((0:Int) < (s.picks.length:Int)∧(s.mode==1)=false):=by
   by_cases h:s.mode=1
   ·exact .inl (.inl h)
   ·by_cases h0:s.picks.length=0
    ·exact .inl (.inr h0)
    ·exact .inr ⟨by omega,by rw [beq_eq_false_iff_ne];exact h⟩
  (try simp (disch:=omega) only [go_sem,simprocAttr,zD,zE,h4'])
  rcases hmode with hmode | ⟨hm1,hm2⟩
  rotate_left
  ·have hm3:(s.mode != 1)=true:=by rw [bne,hm2];rfl
   have e:r=false:=by
    rw [←hr]
    refine qaf fun h=>?_
    rw [beq_eq_false_iff_ne] at hm2
    rcases h.2.1 with h | h
    ·exact hm2 h
    ·omega
   (try simp (disch:=omega) only [go_sem,simprocAttr,zD,zE,hm1,hm3,e])
  have no: ∀(j:Nat) (p:Int × List (Int × Int)),s.picks[j]? =some p→ ¬(StaP m p.1∧p.2.length≤4∧qkU ls n p.2)→r=false:=fun j p h1 h2=>by
   rw [←hr];exact qaf fun h=>h2 (h.2.2 j p h1)
  have go: ∀(d:Bool),(d=true∨d=false):=fun d=>by cases d<;>simp
  have cond:(0 < s.picks.length∧(s.mode==1)=true)∨s.picks.length=0:=by
   rcases Nat.eq_zero_or_pos s.picks.length with h | h
   ·exact .inr h
   ·rcases hmode with h1 | h1
    ·exact .inl ⟨h,by rw [beq_iff_eq];exact h1⟩
    ·exact .inr h1
  rcases cond with ⟨k1,k2⟩ | k1
  ·have k1':(0:Int) < (s.picks.length:Int):=by omega
   have k3:(s.mode != 1)=false:=by rw [bne,k2];rfl
   (try simp (disch:=omega) only [go_sem,simprocAttr,zD,zE,k1',k3])
   refine qac 200 200 (fun i:Nat=>i≤s.picks.length∧ ∀j p,j < i→s.picks[j]? =some p→StaP m p.1∧p.2.length≤4∧qkU ls n p.2)
    (fun i=>⟨89, [(1,sci .i64 n),(2,sci .i64 (m:Int)),(4, .ptr 0 0 0 0),(7, .ptr 1 0 0 0),(9,sci .i64 i)], [],2, [(1,grB N ls),(0,stB s)]⟩) (fun i=>s.picks.length - i) 0 [] ⟨Nat.zero_le _,fun j w h=>by omega⟩ ?_ ?_
   ·constructor<;>(try simp (disch:=omega) only [go_sem,simprocAttr,zD,zE,Int.natCast_zero])
   ·rintro i ⟨hi,hp⟩
    try refine zW ?_
    by_cases li:i < s.picks.length
    ·have gi:=List.getElem?_eq_getElem li
     try refine zO ?_
     (try simp (disch:=omega) only [go_sem,simprocAttr,zD,zE,ePk])
     generalize hpk:s.picks[i]=pk at *
     obtain⟨nx,sends⟩:=pk
     by_cases c1:nx < 0
     ·have e:=no i _ gi fun h=>by have:=h.1.1;simp only at this;omega
      (try simp (disch:=omega) only [go_sem,simprocAttr,zD,zE,c1,e])
     by_cases c2:(m:Int)≤nx
     ·have e:=no i _ gi fun h=>by have:=h.1.2;simp only at this;omega
      (try simp (disch:=omega) only [go_sem,simprocAttr,zD,zE,c1,c2,e])
     by_cases c3:(4:Int) < (sends.length:Int)
     ·have e:=no i _ gi fun h=>by have:=h.2.1;simp only at this;omega
      (try simp (disch:=omega) only [go_sem,simprocAttr,zD,zE,c1,c2,c3,e])
     (try simp (disch:=omega) only [go_sem,simprocAttr,zD,zE,c1,c2,c3])
     refine qan 200 200 (fun k:Nat=>k≤sends.length∧ ∀j x,j < k→sends[j]? =some x→(n,x.1)∈ls∧LetP x.2)
      (fun k=>⟨89, [(1,sci .i64 n),(2,sci .i64 (m:Int)),(4, .ptr 0 0 0 0),(7, .ptr 1 0 0 0),(9,sci .i64 i),(10, .ptr 2 0 0 0),(11,sci .i64 k)], [],3, [(2, .arr 2 0 [[sci .i64 nx,lII sends]]),(1,grB N ls),(0,stB s)]⟩) (fun k=>sends.length - k) 0 ⟨Nat.zero_le _,fun j w h=>by omega⟩ ?_ ?_
     ·constructor<;>(try simp (disch:=omega) only [go_sem,simprocAttr,zD,zE,Int.natCast_zero])
     ·rintro k ⟨hk,hq⟩
      try refine zW ?_
      by_cases lk:k < sends.length
      ·have gk:=List.getElem?_eq_getElem lk
       have nok: ¬((n,sends[k].1)∈ls∧LetP sends[k].2)→r=false:=fun h=>no i _ gi fun q=>h (q.2.2 k _ gk)
       try refine zO ?_
       (refine zM [1,2,4,7,9,10,11] ?_;refine zI [none,none,none,none,none,none,none,none,some [],none,none,none,none,none,none,none,none,none,none,none,none,none,none,none,none,none,none,none] ?_)
       (try simp (disch:=omega) only [go_sem,simprocAttr,zD,zE,eII])
       (refine zF ?_;refine callA_of (qb4 _ _ _ _ hl) zB ?_;try refine zW ?_)
       generalize hx:sends[k]=x at *
       obtain⟨to,lt⟩:=x
       simp only at nok
       by_cases hin:(n,to)∈ls
       ·have hf: ¬qaF n to 0 ls < 0:=by have:=qcg (s:=0).2 hin;omega
        (try simp (disch:=omega) only [go_sem,simprocAttr,zD,zE,hf,hx,eII])
        by_cases d1:lt < 0
        ·(try simp (disch:=omega) only [go_sem,simprocAttr,zD,zE,d1,hx,eII,nok fun h=>by have:=h.2.1;omega])
        by_cases d2:(3:Int) < lt
        ·(try simp (disch:=omega) only [go_sem,simprocAttr,zD,zE,d1,d2,hx,eII,nok fun h=>by have:=h.2.2;omega])
        (try simp (disch:=omega) only [go_sem,simprocAttr,zD,zE,d1,d2,hx,eII])
        refine⟨k+1,⟨lk,qa0 lk hq (by rw [hx];exact⟨hin,by unfold LetP;simp only;omega⟩)⟩,by omega,?_⟩
        constructor<;>((try refine zO ?_);(try with_reducible exact True.intro))
       ·have hf:qaF n to 0 ls < 0:=by
         rcases Int.lt_or_le (qaF n to 0 ls) 0 with h | h
         ·exact h
         ·exact absurd (qcg.1 h) hin
        (try simp (disch:=omega) only [go_sem,simprocAttr,zD,zE,hf,hx,eII,nok fun h=>hin h.1])
      ·obtain rfl:k=sends.length:=by omega
       try refine zO ?_
       refine⟨i+1, [2],⟨li,qa0 li hp (by rw [hpk];exact⟨⟨by simp only;omega,by simp only;omega⟩,by simp only;omega,all_end hq⟩)⟩,by omega,?_⟩
       constructor<;>((try refine zO ?_);(try with_reducible exact True.intro))
    ·obtain rfl:i=s.picks.length:=by omega
     have e:r=true:=by rw [←hr];exact qal ⟨h4,hmode,all_end hp⟩
     (try simp (disch:=omega) only [go_sem,simprocAttr,zD,zE,e])
  ·have k1': ¬(0:Int) < (s.picks.length:Int):=by omega
   have kn:s.picks= []:=List.eq_nil_of_length_eq_zero k1
   have e:r=true:=by rw [←hr];exact qal ⟨h4,hmode,fun j p h=>by rw [kn] at h;simp at h⟩
   (try simp (disch:=omega) only [go_sem,simprocAttr,zD,zE,k1'])
   refine qan 200 200 (fun i:Nat=>i=0)
    (fun i=>⟨89, [(4, .ptr 0 0 0 0),(9,sci .i64 0)], [],2, [(1,grB N ls),(0,stB s)]⟩) (fun i=>i) 0 rfl ?_ ?_
   ·constructor<;>((try refine zO ?_);(try with_reducible exact True.intro))
   ·rintro i rfl
    (try simp (disch:=omega) only [go_sem,simprocAttr,zD,zE,k1',e])
 ·have h4':(4:Int) < (s.picks.length:Int):=by omega
  have e:r=false:=by rw [←hr];exact qaf fun h=>h4 h.1
  (try simp (disch:=omega) only [go_sem,simprocAttr,zD,zE,h4',e])
abbrev lNd (x:Nd):IV:= .agg [sci .i64 x.start, .p (.imm 4 (pr eSt x.states))]
abbrev ndB (x:Nd):IBlk:= .arr 2 0 [[sci .i64 x.start, .p (.imm 4 (pr eSt x.states))]]
def qj7 (ls:List (Int × Int)) (n:Int) (x:Nd) (s:St) (j:Nat) (t:Int × Int × Int):Prop:=
 (t.1,n)∈ls∧LetP t.2.1∧StaP x.states.length t.2.2∧(∀to,x.states[t.2.2.toNat]? =some to→qhb s to t.1)∧Once (s.takes.take j) t
def qfs (ls:List (Int × Int)) (n:Int) (x:Nd) (s:St):Prop:= ∀(j:Nat) (t:Int × Int × Int),s.takes[j]? =some t→qj7 ls n x s j t
theorem qkO (s:St) (n:Int) (x:Nd) (N:Int) (ls:List (Int × Int)) (hl:ls.length≤1000000) (hw:s.waits.length≤1000000) (ht:s.takes.length≤1000000) (hx: ∀to∈x.states,to.waits.length≤1000000):
  Pure prog 81 [lSt s,sci .i64 n,lNd x,eG N ls] (scb (tB (qfs ls n x s))):=by
 generalize hr:tB (qfs ls n x s)=r
 have no: ∀(j:Nat) (t:Int × Int × Int),s.takes[j]? =some t→ ¬qj7 ls n x s j t→r=false:=fun j t h1 h2=>by
  rw [←hr];exact qaf fun h=>h2 (h j t h1)
 refine pcall0 200 (fn:=f81) func81 rfl (by simp [ntmps81]) zB zB fun hs=>?_
 try refine zW ?_
 refine qac 200 200 (fun i:Nat=>i≤s.takes.length∧ ∀j t,j < i→s.takes[j]? =some t→qj7 ls n x s j t)
  (fun i=>⟨91, [(1,sci .i64 n),(4, .ptr 0 0 0 0),(6, .ptr 1 0 0 0),(7, .ptr 2 0 0 0),(9,sci .i64 i)], [],3, [(2,grB N ls),(1,ndB x),(0,stB s)]⟩) (fun i=>s.takes.length - i) 0 [] ⟨Nat.zero_le _,fun j w h=>by omega⟩ ?_ ?_
 ·constructor<;>(try simp (maxSteps:=2000000) (disch:=omega) only [go_sem,simprocAttr,zD,zE,Int.natCast_zero])
 ·rintro i ⟨hi,hp⟩
  try refine zW ?_
  by_cases li:i < s.takes.length
  ·have gi:=List.getElem?_eq_getElem li
   have noi:=no i _ gi
   (try simp (maxSteps:=2000000) (disch:=omega) only [go_sem,simprocAttr,zD,zE,eIII])
   generalize htk:s.takes[i]=tk at *
   obtain⟨from',lt,nx⟩:=tk
   (refine zM [1,4,6,7,9,10] ?_;refine zI (none::none::none::none::some []::none::none::none::none::none::none::none::none::none::none::none::none::none::none::none::none::none::none::none::none::none::none::none::none::none::none::none::none::none::none::none::none::none::none::some []::none::none:: []) ?_)
   try refine zW ?_
   (refine zF ?_;refine callA_of (qb4 _ _ _ _ hl) zB ?_;try refine zW ?_)
   by_cases hin:(from',n)∈ls
   rotate_left
   ·have hf:qaF from' n 0 ls < 0:=by
     rcases Int.lt_or_le (qaF from' n 0 ls) 0 with h | h
     ·exact h
     ·exact absurd (qcg.1 h) hin
    (try simp (maxSteps:=2000000) (disch:=omega) only [go_sem,simprocAttr,zD,zE,hf,noi fun h=>hin h.1])
   have hf: ¬qaF from' n 0 ls < 0:=by have:=qcg (s:=0).2 hin;omega
   by_cases d1:lt < 0
   ·(try simp (maxSteps:=2000000) (disch:=omega) only [go_sem,simprocAttr,zD,zE,hf,d1,noi fun h=>by have:=h.2.1.1;simp only at this;omega])
   by_cases d2:(3:Int) < lt
   ·(try simp (maxSteps:=2000000) (disch:=omega) only [go_sem,simprocAttr,zD,zE,hf,d1,d2,noi fun h=>by have:=h.2.1.2;simp only at this;omega])
   by_cases d3:nx < 0
   ·(try simp (maxSteps:=2000000) (disch:=omega) only [go_sem,simprocAttr,zD,zE,hf,d1,d2,d3,noi fun h=>by have:=h.2.2.1.1;simp only at this;omega])
   by_cases d4:(x.states.length:Int)≤nx
   ·(try simp (maxSteps:=2000000) (disch:=omega) only [go_sem,simprocAttr,zD,zE,hf,d1,d2,d3,d4,noi fun h=>by have:=h.2.2.1.2;simp only at this;omega])
   obtain⟨nx,rfl⟩:=Int.eq_ofNat_of_zero_le (show 0≤nx by omega)
   have hnx:nx < x.states.length:=by omega
   have gn:=List.getElem?_eq_getElem hnx
   have gs:(pr eSt x.states)[nx]? =some (eSt x.states[nx]):=qdJ gn
   have hto:=hx _ (List.getElem_mem hnx)
   generalize x.states[nx]=to at *
   (try simp (maxSteps:=2000000) (disch:=omega) only [go_sem,simprocAttr,zD,zE,hf,d1,d2,d3,d4,gs,eSt])
   (refine zF ?_;refine callA_of (qmT s to from' hw hto) zB ?_;try refine zW ?_)
   by_cases hkp:qhb s to from'
   rotate_left
   ·(try simp (maxSteps:=2000000) (disch:=omega) only [go_sem,simprocAttr,zD,zE,qaf hkp,noi fun h=>hkp (h.2.2.2.1 to (by simpa using gn))])
   (try simp (maxSteps:=2000000) (disch:=omega) only [go_sem,simprocAttr,zD,zE,qal hkp])
   refine qan 200 200 (fun k:Nat=>k≤i∧ ∀j u,j < k→s.takes[j]? =some u→ ¬(u.1=from'∧u.2.1=lt))
    (fun k=>⟨91, [(1,sci .i64 n),(4, .ptr 0 0 0 0),(6, .ptr 1 0 0 0),(7, .ptr 2 0 0 0),(9,sci .i64 i),(10, .ptr 3 0 0 0),(11,sci .i64 k)], [],4, [(3, .arr 3 0 [[sci .i64 from',sci .i64 lt,sci .i64 (nx:Int)]]),(2,grB N ls),(1,ndB x),(0,stB s)]⟩) (fun k=>i - k) 0 ⟨Nat.zero_le _,fun j w h=>by omega⟩ ?_ ?_
   ·constructor<;>(try simp (maxSteps:=2000000) (disch:=omega) only [go_sem,simprocAttr,zD,zE,Int.natCast_zero])
   ·rintro k ⟨hk,hq⟩
    try refine zW ?_
    by_cases lk:k < i
    ·have lk2:k < s.takes.length:=by omega
     have gk:=List.getElem?_eq_getElem lk2
     have gk2:(pr eIII s.takes)[k]? =some (eIII s.takes[k]):=qdJ gk
     have nok:(s.takes[k].1=from'∧s.takes[k].2.1=lt)→r=false:=fun h=>noi fun q=>q.2.2.2.2 k _ (by rw [List.getElem?_take,if_pos lk];exact gk) h
     try refine zO ?_
     (refine zM [1,4,6,7,9,10,11] ?_;refine zI [none,none,none,none,none,none,none,none,none,none,none,none,none,none,none,none,none,none,none,none] ?_)
     (try simp (maxSteps:=2000000) (disch:=omega) only [go_sem,simprocAttr,zD,zE,gk2,eIII])
     by_cases e1:s.takes[k].1=from'
     ·by_cases e2:s.takes[k].2.1=lt
      ·(try simp (maxSteps:=2000000) (disch:=omega) only [go_sem,simprocAttr,zD,zE,e1,gk2,eIII,e2,nok ⟨e1,e2⟩])
      ·have e2':(s.takes[k].2.1==lt)=false:=by rw [beq_eq_false_iff_ne];exact e2
       (try simp (maxSteps:=2000000) (disch:=omega) only [go_sem,simprocAttr,zD,zE,e1,gk2,eIII,e2'])
       refine⟨k+1,⟨lk,qa0 lk2 hq fun h=>e2 h.2⟩,by omega,?_⟩
       constructor<;>((try refine zO ?_);(try with_reducible exact True.intro))
     ·have e1':(s.takes[k].1==from')=false:=by rw [beq_eq_false_iff_ne];exact e1
      (try simp (maxSteps:=2000000) (disch:=omega) only [go_sem,simprocAttr,zD,zE,e1'])
      refine⟨k+1,⟨lk,qa0 lk2 hq fun h=>e1 h.1⟩,by omega,?_⟩
      constructor<;>((try refine zO ?_);(try with_reducible exact True.intro))
    ·obtain rfl:k=i:=by omega
     try refine zO ?_
     refine⟨k+1, [3],⟨li,qa0 li hp (by
      rw [htk]
      refine⟨hin,⟨by simp only;omega,by simp only;omega⟩,⟨by simp only;omega,by simp only;omega⟩,fun t' h'=>?_,fun j u h=>?_⟩
      ·simp only [Int.toNat_natCast] at h'
       rw [gn] at h'
       cases h';exact hkp
      ·rw [List.getElem?_take] at h
       split at h
       ·exact hq j u (by assumption) h
       ·cases h)⟩,by omega,?_⟩
     constructor<;>((try refine zO ?_);(try with_reducible exact True.intro))
  ·obtain rfl:i=s.takes.length:=by omega
   have e:r=true:=by rw [←hr];exact qal (all_end hp)
   (try simp (maxSteps:=2000000) (disch:=omega) only [go_sem,simprocAttr,zD,zE,e])
theorem qnB {ls:List (Int × Int)} {n:Int} {x:Nd} {s:St}:MayP ls n x.states s↔qn7 s∧qft ls n s∧qfr ls n x.states.length s∧qfs ls n x s:=by
 unfold MayP qpe qpc qfs qj7 KeptP qhb
 constructor
 ·rintro⟨h1,h2,h3,h4,h5⟩
  refine⟨h1,h2,h3,fun j t hj=>?_⟩
  obtain⟨a,b,c,d⟩:=h4 j t hj
  exact⟨a,b,c,fun to hto i w hw hne=>h5 j t hj i w hw hne to hto,d⟩
 ·rintro⟨h1,h2,h3,h4⟩
  refine⟨h1,h2,h3,fun j t hj=>?_,fun j t hj i w hw hne to hto=>?_⟩
  ·obtain⟨a,b,c,d,e⟩:=h4 j t hj
   exact⟨a,b,c,e⟩
  ·obtain⟨a,b,c,d,e⟩:=h4 j t hj
   exact d to hto i w hw hne
theorem qdN (N:Int) (ls:List (Int × Int)) (T:List Nd) (hT:qdP T):Pure prog 17 [.p (.imm 2 (pr eNd T)),eG N ls] (scb (tB (TabP N ls T))):=by
 generalize hr:tB (TabP N ls T)=r
 have hTl:=hT.1
 refine pcall0 200 (fn:=f17) func17 rfl (by simp [ntmps17]) zB zB fun hs=>?_
 try refine zW ?_
 (refine zG ?_;refine callA_of (qkM N ls) zB ?_;try refine zW ?_)
 cases hrb:qby N ls with
 | false=>
   have e:r=false:=by rw [←hr];exact qaf fun h=>by have:=qig.2 h.1;rw [hrb] at this;cases this
   (try simp (maxSteps:=2000000) (disch:=omega) only [go_sem,simprocAttr,zD,zE,e])
 | true=>
   have hrp:=qig.1 hrb
   have hl:ls.length≤1000000:=by have:=hrp.2.2.1;omega
   by_cases hN:(T.length:Int)=N
   rotate_left
   ·have hN2:((T.length:Int)==N)=false:=by rw [beq_eq_false_iff_ne];exact hN
    have e:r=false:=by rw [←hr];exact qaf fun h=>hN h.2.1
    (try simp (maxSteps:=2000000) (disch:=omega) only [go_sem,simprocAttr,zD,zE,hN2,e])
   have hN2:((T.length:Int)==N)=true:=by rw [beq_iff_eq];exact hN
   have no: ∀(j:Nat) (x:Nd),T[j]? =some x→ ¬qoi ls j x→r=false:=fun j x h1 h2=>by
    rw [←hr];exact qaf fun h=>h2 (h.2.2 j x h1)
   (try simp (maxSteps:=2000000) (disch:=omega) only [go_sem,simprocAttr,zD,zE,hN2])
   refine qan 200 200 (fun i:Nat=>i≤T.length∧ ∀j x,j < i→T[j]? =some x→qoi ls j x)
    (fun i=>⟨101, [(0, .p (.imm 2 (pr eNd T))),(3, .ptr 0 0 0 0),(5,sci .i64 i)], [],1, [(0,grB N ls)]⟩) (fun i=>T.length - i) 0 ⟨Nat.zero_le _,fun j w h=>by omega⟩ ?_ ?_
   ·constructor<;>(try simp (maxSteps:=2000000) (disch:=omega) only [go_sem,simprocAttr,zD,zE,Int.natCast_zero])
   ·rintro i ⟨hi,hp⟩
    try refine zW ?_
    by_cases li:i < T.length
    ·have gi:=List.getElem?_eq_getElem li
     have noi:=no i _ gi
     obtain⟨hss,hsx⟩:=hT.2 i _ gi
     have gx:(pr eNd T)[i]? =some (eNd T[i]):=qdJ gi
     generalize hx:T[i]=x at *
     (try simp (maxSteps:=2000000) (disch:=omega) only [go_sem,simprocAttr,zD,zE,gx,eNd])
     by_cases c1:(x.states.length:Int) < 1
     ·(try simp (maxSteps:=2000000) (disch:=omega) only [go_sem,simprocAttr,zD,zE,c1,noi fun h=>by have:=h.1;omega])
     by_cases c2:(8:Int) < (x.states.length:Int)
     ·(try simp (maxSteps:=2000000) (disch:=omega) only [go_sem,simprocAttr,zD,zE,c1,c2,noi fun h=>by have:=h.2.1;omega])
     by_cases c3:x.start < 0
     ·(try simp (maxSteps:=2000000) (disch:=omega) only [go_sem,simprocAttr,zD,zE,c1,c2,gx,eNd,c3,noi fun h=>by have:=h.2.2.1.1;omega])
     by_cases c4:(x.states.length:Int)≤x.start
     ·(try simp (maxSteps:=2000000) (disch:=omega) only [go_sem,simprocAttr,zD,zE,c1,c2,gx,eNd,c3,c4,noi fun h=>by have:=h.2.2.1.2;omega])
     (try simp (maxSteps:=2000000) (disch:=omega) only [go_sem,simprocAttr,zD,zE,c1,c2,gx,eNd,c3,c4])
     refine qac 200 200 (fun k:Nat=>k≤x.states.length∧ ∀j s,j < k→x.states[j]? =some s→MayP ls i x.states s)
      (fun k=>⟨101, [(0, .p (.imm 2 (pr eNd T))),(3, .ptr 0 0 0 0),(5,sci .i64 i),(6,sci .i64 x.states.length),(7,sci .i64 k)], [],1, [(0,grB N ls)]⟩) (fun k=>x.states.length - k) 0 [] ⟨Nat.zero_le _,fun j w h=>by omega⟩ ?_ ?_
     ·constructor<;>(try simp (maxSteps:=2000000) (disch:=omega) only [go_sem,simprocAttr,zD,zE,Int.natCast_zero])
     ·rintro k ⟨hk,hq⟩
      try refine zW ?_
      by_cases lk:k < x.states.length
      ·have gk:=List.getElem?_eq_getElem lk
       have nok: ¬MayP ls i x.states x.states[k]→r=false:=fun h=>noi fun q=>h (q.2.2.2 k _ gk)
       have gks:(pr eSt x.states)[k]? =some (eSt x.states[k]):=qdJ gk
       obtain⟨w1,w2,w3⟩:=hsx k _ gk
       have hall: ∀to∈x.states,to.waits.length≤1000000:=fun to hto=>by
        obtain⟨q,hq,rfl⟩:=List.getElem_of_mem hto
        exact(hsx q _ (List.getElem?_eq_getElem hq)).1
       generalize hs:x.states[k]=s at *
       (try simp (maxSteps:=2000000) (disch:=omega) only [go_sem,simprocAttr,zD,zE,gx,eNd,gks,eSt])
       (refine zM [0,3,5,6,7,8] ?_;refine zI [none,none,none,none,none,none,none,none,none,none,none,none,some [],none,none,none,none,none,none,none,some [],none,none,none,none,none,none,none,none,none,none,some [],none,none] ?_)
       try refine zW ?_
       by_cases m1:s.mode < 0
       ·(try simp (maxSteps:=2000000) (disch:=omega) only [go_sem,simprocAttr,zD,zE,m1,nok fun h=>by have:=h.1.1;omega])
       by_cases m2:(2:Int) < s.mode
       ·(try simp (maxSteps:=2000000) (disch:=omega) only [go_sem,simprocAttr,zD,zE,m1,m2,nok fun h=>by have:=h.1.2;omega])
       have mm:qn7 s:=⟨by omega,by omega⟩
       (try simp (maxSteps:=2000000) (disch:=omega) only [go_sem,simprocAttr,zD,zE,m1,m2])
       (refine zF ?_;refine callA_of (qkP s i N ls hl w1) zB ?_;try refine zW ?_)
       by_cases h1:qft ls i s
       rotate_left
       ·(try simp (maxSteps:=2000000) (disch:=omega) only [go_sem,simprocAttr,zD,zE,qaf h1,nok fun h=>h1 h.2.1])
       (try simp (maxSteps:=2000000) (disch:=omega) only [go_sem,simprocAttr,zD,zE,qal h1])
       (refine zF ?_;refine callA_of (qkN s i x.states.length N ls hl) zB ?_;try refine zW ?_)
       by_cases h2:qfr ls i x.states.length s
       rotate_left
       ·(try simp (maxSteps:=2000000) (disch:=omega) only [go_sem,simprocAttr,zD,zE,qaf h2,nok fun h=>h2 h.2.2.1])
       (try simp (maxSteps:=2000000) (disch:=omega) only [go_sem,simprocAttr,zD,zE,qal h2,gx,eNd])
       (refine zF ?_;refine callA_of (qkO s i x N ls hl w1 w3 hall) zB ?_;try refine zW ?_)
       by_cases h3:qfs ls i x s
       rotate_left
       ·(try simp (maxSteps:=2000000) (disch:=omega) only [go_sem,simprocAttr,zD,zE,qaf h3,nok fun h=>h3 (qnB.1 h).2.2.2])
       (try simp (maxSteps:=2000000) (disch:=omega) only [go_sem,simprocAttr,zD,zE,qal h3])
       refine⟨k+1, [1],⟨lk,qa0 lk hq (by rw [hs];exact qnB.2 ⟨mm,h1,h2,h3⟩)⟩,by omega,?_⟩
       constructor<;>((try refine zO ?_);(try with_reducible exact True.intro))
      ·obtain rfl:k=x.states.length:=by omega
       try refine zO ?_
       refine⟨i+1,⟨li,qa0 li hp (by rw [hx];exact⟨by omega,by omega,⟨by omega,by omega⟩,all_end hq⟩)⟩,by omega,?_⟩
       constructor<;>((try refine zO ?_);(try with_reducible exact True.intro))
    ·obtain rfl:i=T.length:=by omega
     have e:r=true:=by rw [←hr];exact qal ⟨hrp,hN,all_end hp⟩
     (try simp (maxSteps:=2000000) (disch:=omega) only [go_sem,simprocAttr,zD,zE,e])
theorem qqQ (N n:Int) (ls:List (Int × Int)) (hl:ls.length≤1000000):Pure prog 171 [eG N ls,sci .i64 n,sci .i64 1] (lI (ins n 0 ls)):=by
 refine pcall0 200 (fn:=f171) func171 rfl (by simp [ntmps171]) zB zB fun hs=>?_
 try refine zW ?_
 refine qbe 7 1 trivial rfl (.inr rfl) ?_
 (refine walk_trim [1,2,7,11,12,13] trivial zL ?_;((try refine zW ?_);(try with_reducible exact True.intro)))
 refine qac 200 200 (fun i:Nat × Nat × List Int=>i.1≤ls.length∧i.2.2.length≤i.1∧i.2.2++ins n i.1 (ls.drop i.1)=ins n 0 ls)
  (fun i=>⟨29, [(1,sci .i64 n),(2,sci .i64 1),(7, .ref 1 i.2.1 0 i.2.2.length),(11,lII ls),(12,sci .i64 ls.length),(13,sci .i64 i.1)], [],2,
   [(1, .arr 1 i.2.1 (ir eI i.2.2))]⟩) (fun i=>ls.length - i.1) (0,0, []) [] ?_ ?_ ?_
 ·simp
 ·constructor<;>(try simp (disch:=omega) only [go_sem,simprocAttr,zD,zE,Int.natCast_zero])
 ·rintro⟨i,g,acc⟩ ⟨h1,h2,h3⟩
  simp only at h1 h2 h3
  try refine zW ?_
  by_cases hi:i < ls.length
  ·rw [qba hi] at h3
   (try simp (disch:=omega) only [go_sem,simprocAttr,zD,zE,eII])
   by_cases hc:ls[i].2=n
   ·(try simp (disch:=omega) only [go_sem,simprocAttr,zD,zE,hc])
    refine⟨(i+1,g+1,acc++ [(i:Int)]), [],⟨hi,by simp;omega,by simpa [ins,hc] using h3⟩,by simp only;omega,?_⟩
    constructor<;>((try refine zO ?_);(try with_reducible exact True.intro))
   ·(try simp (disch:=omega) only [go_sem,simprocAttr,zD,zE,hc])
    refine⟨(i+1,g,acc), [],⟨hi,by simp only;omega,by simpa [ins,hc] using h3⟩,by simp only;omega,?_⟩
    constructor<;>((try refine zO ?_);(try with_reducible exact True.intro))
  ·obtain rfl:i=ls.length:=by omega
   rw [List.drop_length] at h3
   (try simp (disch:=omega) only [go_sem,simprocAttr,zD,zE,←h3,ins])
theorem qc3 (N n:Int) (ls:List (Int × Int)) (hl:ls.length≤1000000):Pure prog 89 [eG N ls,sci .i64 n] (lI (ins n 0 ls)):=by
 refine pcall0 200 (fn:=f89) func89 rfl (by simp [ntmps89]) zB zB fun hs=>?_
 try refine zW ?_
 (refine zG ?_;refine callA_of (qqQ _ _ _ hl) zB ?_)
 ((try refine zW ?_);(try with_reducible exact True.intro))
end Go.Proofs.NO
/- A map that counts numbers. -/
namespace Go.GP
open Go Go.Idl
variable {a b:Int} {l:List (Int × Int)} {v:IV} {i:Nat}
end Go.GP
/- A map that counts numbers, on the walk. -/
namespace Go.GP
open Go Go.Idl
structure IntMap (P:Program) (t:TypeId):Prop where
 ex: ∃k e,tmp P t=some (k,e)∧tkey P k=some (false, [.int .i64])∧tag P k=some false∧(tzv P e).bind cstv=some (sci .i64 0)
variable {P:Program} {t:TypeId} {G:Nat→Option IBlk} {b:Nat} {l:List (Int × Int)} {x:Int}
end Go.GP
/- What was sent and not got; whether something was got that was not sent. No program in sight. -/
namespace Go.GP
def allM:Nat→List Int→List (Int × Int)
 | _, []=> []
 | i,x::r=>((i:Int)+1,x)::allM (i+1) r
def keysM (l:List (Int × Int)):List Int:=l.map (·.1)
def restL (out:List Int) (inn:List (Int × Int)):List (Int × Int):=(allM 0 out).filter fun m=>decide (m.1 ∉ keysM inn)
def MayP (sent:Int):Int→List (Int × Int)→Prop
 | _, []=>True
 | last,x::r=>(last < x.1∧x.1≤sent∧0≤x.2∧x.2≤3)∧MayP sent x.1 r
end Go.GP
/- What was sent on a link and not got: the program's answer. -/
namespace Go.Proofs.NO
open Go Go.Idl Go.Proofs Go.GP Go.Proofs.Tryz
set_option maxHeartbeats 20000000
set_option maxRecDepth 100000
theorem im:IntMap prog 273:=⟨3,3,by kernel_rfl,by kernel_rfl,by kernel_rfl,by kernel_rfl⟩
def MixM (out:List Int) (inn:List (Int × Int)) (m:Int × Int):Prop:=1 < (keysM inn).count m.1∨m ∉ allM 0 out
instance (out:List Int) (inn:List (Int × Int)) (m:Int × Int):Decidable (MixM out inn m):=inferInstanceAs (Decidable (_∨_))
theorem indexL_at' (a:Int): ∀(l:List Int) (i:Nat),indexL a i l= -1∨ ∃j:Nat,indexL a i l=((i+j:Nat):Int)∧j < l.length∧l[j]? =some a
 | [],i=> .inl rfl
 | x::r,i=>by
   unfold indexL
   split
   ·rename_i e;exact .inr ⟨0,rfl,by simp,by simp [e]⟩
   ·rcases indexL_at' a r (i+1) with e | ⟨j,e,hj,h⟩
    ·exact .inl e
    ·exact .inr ⟨j+1,by rw [e];congr 1;omega,by simpa using hj,by simpa using h⟩
def zPc:Pc:=⟨0,0,0, [], [], []⟩
structure LkF (ls:List (Int × Int)) (l:List Pc) (i a b o j:Nat) (p q:Pc):Prop where
 hx:ls[i]? =some ((a:Int),(b:Int))
 ha:l[a]? =some p
 hb:l[b]? =some q
 hp:p.node=a
 hq:q.node=b
 ho:indexL (i:Int) 0 (outs (a:Int) 0 ls)=(o:Int)
 hol:o < p.sent.length
 hj:indexL (i:Int) 0 (ins (b:Int) 0 ls)=(j:Int)
 hjl:j < q.inn.length
 hoo:(outs (a:Int) 0 ls)[o]? =some (i:Int)
 hjj:(ins (b:Int) 0 ls)[j]? =some (i:Int)
 hP:qaA p
 hQ:qaA q
end Go.Proofs.NO
