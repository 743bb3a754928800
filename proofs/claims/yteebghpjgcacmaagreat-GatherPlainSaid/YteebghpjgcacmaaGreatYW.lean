/- Facts that the proofs of this claim lean on. -/
import Derived.Test.YteebghpjgcacmaaGreatYU
set_option linter.unusedSimpArgs false
set_option linter.unusedVariables false
/- Tables: what a state picks and takes, and what stays. -/
namespace Go.Proofs.GY
open Go Go.Idl Go.Proofs Go.GP
set_option maxHeartbeats 20000000
set_option maxRecDepth 100000
variable (s:St) (n st:Int) (ss:List St) (N:Int) (ls:List (Int × Int)) (hl:ls.length≤1000000)
include hl in
theorem qnp (hp:s.picks.length≤1000000):Pure Tryz.prog 126 [.agg [sci .i64 s.mode,lI s.waits, .p (.imm 2 (pr ePk s.picks)), .p (.imm 3 (pr eIII s.takes)),sci .i64 n,sci .i64 st, .p (.imm 4 (pr eSt ss)),sci .i64 N,lII ls]] (scb (tB (qb3 ls n ss.length s))):=by
 refine qaf 200 (fn:=Tryz.f126) Tryz.func126 rfl (by simp [Tryz.ntmps126]) zB zB fun hs=>?_
 try refine zW ?_
 by_cases h4:4 < s.picks.length
 ·have h4':(4:Int) < s.picks.length:=by omega
  have e:tB (qb3 ls n ss.length s)=false:=qah fun q=>by have:=q.1;omega
  (try simp (maxSteps:=2000000) (disch:=omega) only [go_sem,simprocAttr,zD,zE,h4',e])
 have h4': ¬(4:Int) < s.picks.length:=by omega
 by_cases hm:s.mode=1∨s.picks.length=0
 ·have hc:(s.mode=1∧True)∨(¬s.mode=1∧ ¬(0:Int) < s.picks.length):=by
   rcases hm with h | h
   ·exact .inl ⟨h,trivial⟩
   ·by_cases q:s.mode=1
    ·exact .inl ⟨q,trivial⟩
    ·exact .inr ⟨q,by omega⟩
  have hcc:(!decide (s.mode=1) && decide ((0:Int) < s.picks.length))=false:=by
   rcases hc with ⟨h,_⟩ | ⟨h,k⟩
   ·simp [h]
   ·have:s.picks.length=0:=by omega
    simp [this]
  rcases hc with ⟨h1,h2⟩ | ⟨h1,h2⟩
  ·(try simp (maxSteps:=2000000) (disch:=omega) only [go_sem,simprocAttr,zD,zE,h4',h1,h2])
   (refine walk_trim [1,26,27,28] trivial zL ?_;((try refine zW ?_);(try with_reducible exact True.intro)))
   refine qad 200 200 (fun i:Nat=>i≤s.picks.length∧ ∀(j:Nat) (p:Int × List (Int × Int)),j < i→s.picks[j]? =some p→StaP ss.length p.1∧p.2.length≤4∧qc9 ls n p.2)
    (fun i=>⟨51, [(1, .ptr 0 0 0 0),(26, .p (.imm 2 (pr ePk s.picks))),(27,sci .i64 s.picks.length),(28,sci .i64 i)], [],1, [(0, .arr 9 0 [[sci .i64 s.mode,lI s.waits, .p (.imm 2 (pr ePk s.picks)), .p (.imm 3 (pr eIII s.takes)),sci .i64 n,sci .i64 st, .p (.imm 4 (pr eSt ss)),sci .i64 N,lII ls]])]⟩) (fun i=>s.picks.length - i) (0) [] ?_ ?_ ?_
   ·simp
   ·constructor<;>(try simp (maxSteps:=2000000) (disch:=omega) only [go_sem,simprocAttr,zD,zE,Int.natCast_zero,List.take_of_length_le,List.append_assoc,h1])
   ·rintro i hi
    obtain⟨hi,hinvi⟩:=hi
    try refine zW ?_
    by_cases li:i < s.picks.length
    ·have bad: ¬(StaP ss.length s.picks[i].1∧s.picks[i].2.length≤4∧qc9 ls n s.picks[i].2)→tB (qb3 ls n ss.length s)=false:=fun q=>qah fun h=>q (h.2.2 i _ (List.getElem?_eq_getElem li))
     have sn:=qaC li hinvi
     generalize hp:s.picks[i]=p at *
     (try simp (maxSteps:=2000000) (disch:=omega) only [go_sem,simprocAttr,zD,zE,ePk,hp])
     (refine qac 200 ?_;refine zW ?_;refine callA_of (qg4 s n st ss N ls p.1) zB ?_;((try refine zW ?_);(try with_reducible exact True.intro)))
     by_cases h1:StaP ss.length p.1
     ·have e1:=qam h1
      by_cases h2:4 < p.2.length
      ·have h2':(4:Int) < p.2.length:=by omega
       have e2:=bad fun q=>by have:=q.2.1;omega
       (try simp (maxSteps:=2000000) (disch:=omega) only [go_sem,simprocAttr,zD,zE,e1,h2',e2])
      ·have h2': ¬(4:Int) < p.2.length:=by omega
       (try simp (maxSteps:=2000000) (disch:=omega) only [go_sem,simprocAttr,zD,zE,e1,h2'])
       (refine qac 200 ?_;refine zW ?_;refine qaW ?_;refine zW ?_;refine qa9 (qjz s n st ss N ls hl p.2 (by omega)) (by first | rfl | (split<;>rfl)) ?_;((try refine zW ?_);(try with_reducible exact True.intro)))
       by_cases h3:qc9 ls n p.2
       ·have e3:=qam h3
        (try simp (maxSteps:=2000000) (disch:=omega) only [go_sem,simprocAttr,zD,zE,e3])
        refine⟨i+1, [],⟨li,sn ⟨h1,by omega,h3⟩⟩,by omega,?_⟩
        constructor<;>((try refine zO ?_);(try with_reducible exact True.intro))
       ·have e3:=qah h3
        have e2:=bad fun q=>h3 q.2.2
        (try simp (maxSteps:=2000000) (disch:=omega) only [go_sem,simprocAttr,zD,zE,e3,e2])
     ·have e1:=qah h1
      have e2:=bad fun q=>h1 q.1
      (try simp (maxSteps:=2000000) (disch:=omega) only [go_sem,simprocAttr,zD,zE,e1,e2])
    ·obtain rfl:i=s.picks.length:=by omega
     have hall:=all_end hinvi
     have e:tB (qb3 ls n ss.length s)=true:=qam ⟨by omega,hm,hall⟩
     (try simp (maxSteps:=2000000) (disch:=omega) only [go_sem,simprocAttr,zD,zE,e])
  ·(try simp (maxSteps:=2000000) (disch:=omega) only [go_sem,simprocAttr,zD,zE,h4',h1,h2])
   (refine walk_trim [1,26,27,28] trivial zL ?_;((try refine zW ?_);(try with_reducible exact True.intro)))
   refine qad 200 200 (fun i:Nat=>i≤s.picks.length∧ ∀(j:Nat) (p:Int × List (Int × Int)),j < i→s.picks[j]? =some p→StaP ss.length p.1∧p.2.length≤4∧qc9 ls n p.2)
    (fun i=>⟨51, [(1, .ptr 0 0 0 0),(26, .p (.imm 2 (pr ePk s.picks))),(27,sci .i64 s.picks.length),(28,sci .i64 i)], [],1, [(0, .arr 9 0 [[sci .i64 s.mode,lI s.waits, .p (.imm 2 (pr ePk s.picks)), .p (.imm 3 (pr eIII s.takes)),sci .i64 n,sci .i64 st, .p (.imm 4 (pr eSt ss)),sci .i64 N,lII ls]])]⟩) (fun i=>s.picks.length - i) (0) [] ?_ ?_ ?_
   ·simp
   ·constructor<;>(try simp (maxSteps:=2000000) (disch:=omega) only [go_sem,simprocAttr,zD,zE,Int.natCast_zero,List.take_of_length_le,List.append_assoc,h1])
   ·rintro i hi
    obtain⟨hi,hinvi⟩:=hi
    try refine zW ?_
    by_cases li:i < s.picks.length
    ·exfalso;omega
    ·obtain rfl:i=s.picks.length:=by omega
     have hall:=all_end hinvi
     have e:tB (qb3 ls n ss.length s)=true:=qam ⟨by omega,hm,hall⟩
     (try simp (maxSteps:=2000000) (disch:=omega) only [go_sem,simprocAttr,zD,zE,e])
 ·have e:tB (qb3 ls n ss.length s)=false:=qah fun q=>hm q.2.1
  have h1: ¬s.mode=1:=fun q=>hm (.inl q)
  have h2:(0:Int) < s.picks.length:=by
   have: ¬s.picks.length=0:=fun q=>hm (.inr q)
   omega
  (try simp (maxSteps:=2000000) (disch:=omega) only [go_sem,simprocAttr,zD,zE,h4',h1,h2,e])
include hl in
theorem qnx (ht:s.takes.length≤1000000):Pure Tryz.prog 127 [.agg [sci .i64 s.mode,lI s.waits, .p (.imm 2 (pr ePk s.picks)), .p (.imm 3 (pr eIII s.takes)),sci .i64 n,sci .i64 st, .p (.imm 4 (pr eSt ss)),sci .i64 N,lII ls]] (scb (tB (qea ls n ss.length s))):=by
 refine qaf 200 (fn:=Tryz.f127) Tryz.func127 rfl (by simp [Tryz.ntmps127]) zB zB fun hs=>?_
 try refine zW ?_
 (refine walk_trim [1,8,9,10] trivial zL ?_;((try refine zW ?_);(try with_reducible exact True.intro)))
 refine qad 200 200 (fun i:Nat=>i≤s.takes.length∧ ∀(j:Nat) (t:Int × Int × Int),j < i→s.takes[j]? =some t→(t.1,n)∈ls∧LetP t.2.1∧StaP ss.length t.2.2∧Once (s.takes.take j) t)
  (fun i=>⟨44, [(1, .ptr 0 0 0 0),(8, .p (.imm 3 (pr eIII s.takes))),(9,sci .i64 s.takes.length),(10,sci .i64 i)], [],1, [(0, .arr 9 0 [[sci .i64 s.mode,lI s.waits, .p (.imm 2 (pr ePk s.picks)), .p (.imm 3 (pr eIII s.takes)),sci .i64 n,sci .i64 st, .p (.imm 4 (pr eSt ss)),sci .i64 N,lII ls]])]⟩) (fun i=>s.takes.length - i) (0) [] ?_ ?_ ?_
 ·simp
 ·constructor<;>(try simp (maxSteps:=2000000) (disch:=omega) only [go_sem,simprocAttr,zD,zE,Int.natCast_zero,List.take_of_length_le,List.append_assoc])
 ·rintro i hi
  obtain⟨hi,hinvi⟩:=hi
  try refine zW ?_
  by_cases li:i < s.takes.length
  ·have bad: ¬((s.takes[i].1,n)∈ls∧LetP s.takes[i].2.1∧StaP ss.length s.takes[i].2.2∧Once (s.takes.take i) s.takes[i])→tB (qea ls n ss.length s)=false:=fun q=>qah fun h=>q (h i _ (List.getElem?_eq_getElem li))
   have sn:=qaC li hinvi
   generalize hp:s.takes[i]=t at *
   obtain⟨a,b,c⟩:=t
   simp only at bad sn
   (try simp (maxSteps:=2000000) (disch:=omega) only [go_sem,simprocAttr,zD,zE,eIII,hp])
   (refine qac 200 ?_;refine zW ?_;refine callA_of (qk1 s n st ss N ls hl a) zB ?_;((try refine zW ?_);(try with_reducible exact True.intro)))
   by_cases h1:(a,n)∈ls
   ·have e1:=qam h1
    (try simp (maxSteps:=2000000) (disch:=omega) only [go_sem,simprocAttr,zD,zE,e1])
    (refine qac 200 ?_;refine zW ?_;refine callA_of (qg0 b) zB ?_;((try refine zW ?_);(try with_reducible exact True.intro)))
    by_cases h2:LetP b
    ·have e2:=qam h2
     (try simp (maxSteps:=2000000) (disch:=omega) only [go_sem,simprocAttr,zD,zE,e2])
     (refine qac 200 ?_;refine zW ?_;refine callA_of (qg4 s n st ss N ls c) zB ?_;((try refine zW ?_);(try with_reducible exact True.intro)))
     by_cases h3:StaP ss.length c
     ·have e3:=qam h3
      (try simp (maxSteps:=2000000) (disch:=omega) only [go_sem,simprocAttr,zD,zE,e3])
      (refine qac 200 ?_;refine zW ?_;refine qaW ?_;refine zW ?_;refine qa9 (qjA (s.takes.take i) (a,b,c) (by simp;omega)) (by first | rfl | (split<;>rfl)) ?_;((try refine zW ?_);(try with_reducible exact True.intro)))
      by_cases h4:Once (s.takes.take i) (a,b,c)
      ·have e4:=qam h4
       (try simp (maxSteps:=2000000) (disch:=omega) only [go_sem,simprocAttr,zD,zE,e4])
       refine⟨i+1, [],⟨li,sn ⟨h1,h2,h3,h4⟩⟩,by omega,?_⟩
       constructor<;>((try refine zO ?_);(try with_reducible exact True.intro))
      ·have e4:=qah h4
       have e:=bad fun q=>h4 q.2.2.2
       (try simp (maxSteps:=2000000) (disch:=omega) only [go_sem,simprocAttr,zD,zE,e4,e])
     ·have e3:=qah h3
      have e:=bad fun q=>h3 q.2.2.1
      (try simp (maxSteps:=2000000) (disch:=omega) only [go_sem,simprocAttr,zD,zE,e3,e])
    ·have e2:=qah h2
     have e:=bad fun q=>h2 q.2.1
     (try simp (maxSteps:=2000000) (disch:=omega) only [go_sem,simprocAttr,zD,zE,e2,e])
   ·have e1:=qah h1
    have e:=bad fun q=>h1 q.1
    (try simp (maxSteps:=2000000) (disch:=omega) only [go_sem,simprocAttr,zD,zE,e1,e])
  ·obtain rfl:i=s.takes.length:=by omega
   have hall:=all_end hinvi
   have e:tB (qea ls n ss.length s)=true:=qam hall
   (try simp (maxSteps:=2000000) (disch:=omega) only [go_sem,simprocAttr,zD,zE,e])
end Go.Proofs.GY
/- Tables: what stays; which states may be; which tables may be. -/
namespace Go.Proofs.GY
open Go Go.Idl Go.Proofs Go.GP
set_option maxHeartbeats 20000000
set_option maxRecDepth 100000
variable (s:St) (n st:Int) (ss:List St) (N:Int) (ls:List (Int × Int)) (hl:ls.length≤1000000)
theorem qnw (hix: ∀(j:Nat) (t:Int × Int × Int),s.takes[j]? =some t→StaP ss.length t.2.2) (ht:s.takes.length≤1000000) (hw:s.waits.length≤1000000):
  Pure Tryz.prog 128 [.agg [sci .i64 s.mode,lI s.waits, .p (.imm 2 (pr ePk s.picks)), .p (.imm 3 (pr eIII s.takes)),sci .i64 n,sci .i64 st, .p (.imm 4 (pr eSt ss)),sci .i64 N,lII ls]] (scb (tB (qdz ss s))):=by
 refine qaf 200 (fn:=Tryz.f128) Tryz.func128 rfl (by simp [Tryz.ntmps128]) zB zB fun hs=>?_
 try refine zW ?_
 (refine walk_trim [1,10,11,12] trivial zL ?_;((try refine zW ?_);(try with_reducible exact True.intro)))
 refine qad 200 200 (fun i:Nat=>i≤s.takes.length∧ ∀(j:Nat) (t:Int × Int × Int),j < i→s.takes[j]? =some t→qjK ss s t)
  (fun i=>⟨49, [(1, .ptr 0 0 0 0),(10, .p (.imm 3 (pr eIII s.takes))),(11,sci .i64 s.takes.length),(12,sci .i64 i)], [],1, [(0, .arr 9 0 [[sci .i64 s.mode,lI s.waits, .p (.imm 2 (pr ePk s.picks)), .p (.imm 3 (pr eIII s.takes)),sci .i64 n,sci .i64 st, .p (.imm 4 (pr eSt ss)),sci .i64 N,lII ls]])]⟩) (fun i=>s.takes.length - i) (0) [] ?_ ?_ ?_
 ·simp
 ·constructor<;>(try simp (maxSteps:=2000000) (disch:=omega) only [go_sem,simprocAttr,zD,zE,Int.natCast_zero,List.take_of_length_le,List.append_assoc])
 ·rintro i hi
  obtain⟨hi,hinvi⟩:=hi
  try refine zW ?_
  by_cases li:i < s.takes.length
  ·have bad: ¬qjK ss s s.takes[i]→tB (qdz ss s)=false:=fun q=>qah fun h=>q (h i _ (List.getElem?_eq_getElem li))
   have sn:=qaC li hinvi
   obtain⟨c0,c1⟩:=hix i _ (List.getElem?_eq_getElem li)
   generalize hp:s.takes[i]=t at *
   obtain⟨a,b,c⟩:=t
   simp only at c0 c1
   obtain⟨c,rfl⟩:=Int.eq_ofNat_of_zero_le c0
   have hc:c < ss.length:=by omega
   have gc:(pr eSt ss)[c]? =some (eSt ss[c]):=qel hc
   have gs:ss[c]? =some ss[c]:=List.getElem?_eq_getElem hc
   (try simp (maxSteps:=2000000) (disch:=omega) only [go_sem,simprocAttr,zD,zE,eIII,hp])
   (refine walk_trim [1,4,10,11,12,18,19,20] trivial zL ?_;((try refine zW ?_);(try with_reducible exact True.intro)))
   refine qad 200 200 (fun k:Nat=>k≤s.waits.length∧ ∀(j:Nat) (w:Int),j < k→s.waits[j]? =some w→w≠a→ ∀to,ss[c]? =some to→to.mode=2∧w∈to.waits)
    (fun k=>⟨49, [(1, .ptr 0 0 0 0),(4, .ptr 1 0 0 0),(10, .p (.imm 3 (pr eIII s.takes))),(11,sci .i64 s.takes.length),(12,sci .i64 i),(18,lI s.waits),(19,sci .i64 s.waits.length),(20,sci .i64 k)], [],2, [(1, .arr 3 0 [[sci .i64 a,sci .i64 b,sci .i64 c]]),(0, .arr 9 0 [[sci .i64 s.mode,lI s.waits, .p (.imm 2 (pr ePk s.picks)), .p (.imm 3 (pr eIII s.takes)),sci .i64 n,sci .i64 st, .p (.imm 4 (pr eSt ss)),sci .i64 N,lII ls]])]⟩) (fun k=>s.waits.length - k) (0) [] ?_ ?_ ?_
   ·simp
   ·constructor<;>(try simp (maxSteps:=2000000) (disch:=omega) only [go_sem,simprocAttr,zD,zE,Int.natCast_zero,List.take_of_length_le,List.append_assoc])
   ·rintro k hk
    obtain⟨hk,hinvk⟩:=hk
    try refine zW ?_
    by_cases lk:k < s.waits.length
    ·have bad2: ¬(s.waits[k]≠a→ss[c].mode=2∧s.waits[k]∈ss[c].waits)→tB (qdz ss s)=false:=fun q=>bad fun h=>q fun h2=>h k _ (List.getElem?_eq_getElem lk) h2 _ (by simp)
     have sn2:=qaC lk hinvk
     have kp:(s.waits[k]≠a→ss[c].mode=2∧s.waits[k]∈ss[c].waits)→ ∀to,s.waits[k]≠a→ss[c]? =some to→to.mode=2∧s.waits[k]∈to.waits:=fun q to h2 e=>by rw [gs] at e;cases e;exact q h2
     generalize hx:ss[c]=x at *
     obtain⟨tm,tw,tp,tt⟩:=x
     simp only at bad2 kp
     (try simp (maxSteps:=2000000) (disch:=omega) only [go_sem,simprocAttr,zD,zE,eI,gc,eSt])
     by_cases h1:s.waits[k]=a
     ·(try simp (maxSteps:=2000000) (disch:=omega) only [go_sem,simprocAttr,zD,zE,h1])
      refine⟨k+1, [],⟨lk,sn2 fun h2=>absurd h1 h2⟩,by omega,?_⟩
      constructor<;>((try refine zO ?_);(try with_reducible exact True.intro))
     ·by_cases h2:tm=2
      ·(try simp (maxSteps:=2000000) (disch:=omega) only [go_sem,simprocAttr,zD,zE,h1,h2])
       (refine qac 200 ?_;refine zW ?_;refine callA_of (qfH tw s.waits[k]) zB ?_;((try refine zW ?_);(try with_reducible exact True.intro)))
       by_cases h3:s.waits[k]∈tw
       ·(try simp (maxSteps:=2000000) (disch:=omega) only [go_sem,simprocAttr,zD,zE,h3])
        refine⟨k+1, [],⟨lk,sn2 fun q to e=>kp (fun _=>⟨h2,h3⟩) to q e⟩,by omega,?_⟩
        constructor<;>((try refine zO ?_);(try with_reducible exact True.intro))
       ·have e:=bad2 fun q=>h3 (q h1).2
        (try simp (maxSteps:=2000000) (disch:=omega) only [go_sem,simprocAttr,zD,zE,h3,e])
      ·have e:=bad2 fun q=>h2 (q h1).1
       (try simp (maxSteps:=2000000) (disch:=omega) only [go_sem,simprocAttr,zD,zE,h1,h2,e])
    ·obtain rfl:k=s.waits.length:=by omega
     have hall:=all_end hinvk
     try refine zO ?_
     refine⟨i+1, [],⟨li,sn hall⟩,by omega,?_⟩
     constructor<;>((try refine zO ?_);(try with_reducible exact True.intro))
  ·obtain rfl:i=s.takes.length:=by omega
   have e:tB (qdz ss s)=true:=qam (all_end hinvi)
   (try simp (maxSteps:=2000000) (disch:=omega) only [go_sem,simprocAttr,zD,zE,e])
def qma (s:St):Prop:=s.waits.length≤1000000∧s.picks.length≤1000000∧s.takes.length≤1000000
include hl in
theorem qpg (hs:qma s):Pure Tryz.prog 93 [.agg [sci .i64 s.mode,lI s.waits, .p (.imm 2 (pr ePk s.picks)), .p (.imm 3 (pr eIII s.takes)),sci .i64 n,sci .i64 st, .p (.imm 4 (pr eSt ss)),sci .i64 N,lII ls]] (scb (tB (MayP ls n ss s))):=by
 obtain⟨hs1,hs2,hs3⟩:=hs
 refine qaf 200 (fn:=Tryz.f93) Tryz.func93 rfl (by simp [Tryz.ntmps93]) zB zB fun hs=>?_
 try refine zW ?_
 (refine walk_trim [21,22,23] trivial zL ?_;((try refine zW ?_);(try with_reducible exact True.intro)))
 refine qad 200 200 (fun i:Nat=>i≤5∧(1≤i→qfa s)∧(2≤i→qcg ls n s)∧(3≤i→qb3 ls n ss.length s)∧(4≤i→qea ls n ss.length s)∧(5≤i→qdz ss s))
  (fun i=>⟨32, [(21, .ref 1 0 0 5),(22,sci .i64 5),(23,sci .i64 i)], [],2, [(1, .arr 1 0 [[.clo (.func 124) [] [.ptr 0 0 0 0]], [.clo (.func 125) [.agg [sci .i64 s.mode,lI s.waits, .p (.imm 2 (pr ePk s.picks)), .p (.imm 3 (pr eIII s.takes)),sci .i64 n,sci .i64 st, .p (.imm 4 (pr eSt ss)),sci .i64 N,lII ls]] []], [.clo (.func 126) [.agg [sci .i64 s.mode,lI s.waits, .p (.imm 2 (pr ePk s.picks)), .p (.imm 3 (pr eIII s.takes)),sci .i64 n,sci .i64 st, .p (.imm 4 (pr eSt ss)),sci .i64 N,lII ls]] []], [.clo (.func 127) [.agg [sci .i64 s.mode,lI s.waits, .p (.imm 2 (pr ePk s.picks)), .p (.imm 3 (pr eIII s.takes)),sci .i64 n,sci .i64 st, .p (.imm 4 (pr eSt ss)),sci .i64 N,lII ls]] []], [.clo (.func 128) [.agg [sci .i64 s.mode,lI s.waits, .p (.imm 2 (pr ePk s.picks)), .p (.imm 3 (pr eIII s.takes)),sci .i64 n,sci .i64 st, .p (.imm 4 (pr eSt ss)),sci .i64 N,lII ls]] []]]),(0, .arr 9 0 [[sci .i64 s.mode,lI s.waits, .p (.imm 2 (pr ePk s.picks)), .p (.imm 3 (pr eIII s.takes)),sci .i64 n,sci .i64 st, .p (.imm 4 (pr eSt ss)),sci .i64 N,lII ls]])]⟩) (fun i=>5 - i) (0) [] ?_ ?_ ?_
 ·simp
 ·constructor<;>(try simp (maxSteps:=2000000) (disch:=omega) only [go_sem,simprocAttr,zD,zE,Int.natCast_zero,List.take_of_length_le,List.append_assoc])
 ·rintro i hi
  obtain⟨hi,hinvi⟩:=hi
  try refine zW ?_
  by_cases li:i < 5
  ·obtain⟨q1,q2,q3,q4,q5⟩:=hinvi
   obtain rfl | rfl | rfl | rfl | rfl:i=0∨i=1∨i=2∨i=3∨i=4:=by omega
   ·try refine zO ?_
    (refine qac 200 ?_;refine zW ?_;refine qaW ?_;refine zW ?_;refine qa9 (qof s n st ss N ls) (by first | rfl | (split<;>rfl)) ?_;((try refine zW ?_);(try with_reducible exact True.intro)))
    by_cases h:qfa s
    ·have e:=qam h
     (try simp (maxSteps:=2000000) (disch:=omega) only [go_sem,simprocAttr,zD,zE,e])
     refine⟨1, [],⟨by omega,fun _=>h,fun q=>by omega,fun q=>by omega,fun q=>by omega,fun q=>by omega⟩,by omega,?_⟩
     constructor<;>((try refine zO ?_);(try with_reducible exact True.intro))
    ·have e:=qah h
     have e2:tB (MayP ls n ss s)=false:=qah fun q=>h q.1
     (try simp (maxSteps:=2000000) (disch:=omega) only [go_sem,simprocAttr,zD,zE,e,e2])
   ·try refine zO ?_
    (refine qac 200 ?_;refine zW ?_;refine callA_of (qnB s n st ss N ls hl hs1) zB ?_;((try refine zW ?_);(try with_reducible exact True.intro)))
    by_cases h:qcg ls n s
    ·have e:=qam h
     (try simp (maxSteps:=2000000) (disch:=omega) only [go_sem,simprocAttr,zD,zE,e])
     refine⟨2, [],⟨by omega,fun _=>q1 (by omega),fun _=>h,fun q=>by omega,fun q=>by omega,fun q=>by omega⟩,by omega,?_⟩
     constructor<;>((try refine zO ?_);(try with_reducible exact True.intro))
    ·have e:=qah h
     have e2:tB (MayP ls n ss s)=false:=qah fun q=>h q.2.1
     (try simp (maxSteps:=2000000) (disch:=omega) only [go_sem,simprocAttr,zD,zE,e,e2])
   ·try refine zO ?_
    (refine qac 200 ?_;refine zW ?_;refine callA_of (qnp s n st ss N ls hl hs2) zB ?_;((try refine zW ?_);(try with_reducible exact True.intro)))
    by_cases h:qb3 ls n ss.length s
    ·have e:=qam h
     (try simp (maxSteps:=2000000) (disch:=omega) only [go_sem,simprocAttr,zD,zE,e])
     refine⟨3, [],⟨by omega,fun _=>q1 (by omega),fun _=>q2 (by omega),fun _=>h,fun q=>by omega,fun q=>by omega⟩,by omega,?_⟩
     constructor<;>((try refine zO ?_);(try with_reducible exact True.intro))
    ·have e:=qah h
     have e2:tB (MayP ls n ss s)=false:=qah fun q=>h q.2.2.1
     (try simp (maxSteps:=2000000) (disch:=omega) only [go_sem,simprocAttr,zD,zE,e,e2])
   ·try refine zO ?_
    (refine qac 200 ?_;refine zW ?_;refine callA_of (qnx s n st ss N ls hl hs3) zB ?_;((try refine zW ?_);(try with_reducible exact True.intro)))
    by_cases h:qea ls n ss.length s
    ·have e:=qam h
     (try simp (maxSteps:=2000000) (disch:=omega) only [go_sem,simprocAttr,zD,zE,e])
     refine⟨4, [],⟨by omega,fun _=>q1 (by omega),fun _=>q2 (by omega),fun _=>q3 (by omega),fun _=>h,fun q=>by omega⟩,by omega,?_⟩
     constructor<;>((try refine zO ?_);(try with_reducible exact True.intro))
    ·have e:=qah h
     have e2:tB (MayP ls n ss s)=false:=qah fun q=>h q.2.2.2.1
     (try simp (maxSteps:=2000000) (disch:=omega) only [go_sem,simprocAttr,zD,zE,e,e2])
   ·have hT:=q4 (by omega)
    try refine zO ?_
    (refine qac 200 ?_;refine zW ?_;refine callA_of (qnw s n st ss N ls (fun j t e=>(hT j t e).2.2.1) hs3 hs1) zB ?_;((try refine zW ?_);(try with_reducible exact True.intro)))
    by_cases h:qdz ss s
    ·have e:=qam h
     (try simp (maxSteps:=2000000) (disch:=omega) only [go_sem,simprocAttr,zD,zE,e])
     refine⟨5, [],⟨by omega,fun _=>q1 (by omega),fun _=>q2 (by omega),fun _=>q3 (by omega),fun _=>hT,fun _=>h⟩,by omega,?_⟩
     constructor<;>((try refine zO ?_);(try with_reducible exact True.intro))
    ·have e:=qah h
     have e2:tB (MayP ls n ss s)=false:=qah fun q=>h q.2.2.2.2
     (try simp (maxSteps:=2000000) (disch:=omega) only [go_sem,simprocAttr,zD,zE,e,e2])
  ·obtain rfl:i=5:=by omega
   obtain⟨q1,q2,q3,q4,q5⟩:=hinvi
   have e:tB (MayP ls n ss s)=true:=qam ⟨q1 (by omega),q2 (by omega),q3 (by omega),q4 (by omega),q5 (by omega)⟩
   (try simp (maxSteps:=2000000) (disch:=omega) only [go_sem,simprocAttr,zD,zE,e])
end Go.Proofs.GY
