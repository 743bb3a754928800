/- Facts that the proofs of this claim lean on. -/
import Derived.Test.YteebghpjgcacmaaGreatYU
set_option linter.unusedSimpArgs false
set_option linter.unusedVariables false
/- Tables: what a state picks and takes, and what stays. -/
namespace Go.Proofs.GY
open Go Go.Idl Go.Proofs Go.GP
set_option maxHeartbeats 20000000
set_option maxRecDepth 100000
variable (s:St) (n st:Int) (ss:List St) (N:Int) (ls:List (Int × Int)) (hl:ls.length≤1000000)
include hl in
theorem picks_spec (hp:s.picks.length≤1000000):Pure Tryz.prog 126 [.agg [sci .i64 s.mode,lI s.waits, .p (.imm 2 (pr ePk s.picks)), .p (.imm 3 (pr eIII s.takes)),sci .i64 n,sci .i64 st, .p (.imm 4 (pr eSt ss)),sci .i64 N,lII ls]] (scb (tB (PicksP ls n ss.length s))):=by
 refine pcall0 200 (fn:=Tryz.f126) Tryz.func126 rfl (by simp [Tryz.ntmps126]) zB zB fun hs=>?_
 ((try refine zW ?_);(try with_reducible exact True.intro))
 by_cases h4:4 < s.picks.length
 ·have h4':(4:Int) < s.picks.length:=by omega
  have e:tB (PicksP ls n ss.length s)=false:=tB_neg fun q=>by have:=q.1;omega
  (try simp (maxSteps:=2000000) (disch:=omega) only [go_sem,simprocAttr,zD,zE,h4',e])
 have h4': ¬(4:Int) < s.picks.length:=by omega
 by_cases hm:s.mode=1∨s.picks.length=0
 ·have hc:(s.mode=1∧True)∨(¬s.mode=1∧ ¬(0:Int) < s.picks.length):=by
   rcases hm with h | h
   ·exact .inl ⟨h,trivial⟩
   ·by_cases q:s.mode=1
    ·exact .inl ⟨q,trivial⟩
    ·exact .inr ⟨q,by omega⟩
  have hcc:(!decide (s.mode=1) && decide ((0:Int) < s.picks.length))=false:=by
   rcases hc with ⟨h,_⟩ | ⟨h,k⟩
   ·simp [h]
   ·have:s.picks.length=0:=by omega
    simp [this]
  rcases hc with ⟨h1,h2⟩ | ⟨h1,h2⟩
  ·(try simp (maxSteps:=2000000) (disch:=omega) only [go_sem,simprocAttr,zD,zE,h4',h1,h2])
   (refine walk_trim [1,26,27,28] trivial zL ?_;((try refine zW ?_);(try with_reducible exact True.intro)))
   refine walk_floop 200 200 (fun i:Nat=>i≤s.picks.length∧ ∀(j:Nat) (p:Int × List (Int × Int)),j < i→s.picks[j]? =some p→StaP ss.length p.1∧p.2.length≤4∧SendsP ls n p.2)
    (fun i=>⟨51, [(1, .ptr 0 0 0 0),(26, .p (.imm 2 (pr ePk s.picks))),(27,sci .i64 s.picks.length),(28,sci .i64 i)], [],1, [(0, .arr 9 0 [[sci .i64 s.mode,lI s.waits, .p (.imm 2 (pr ePk s.picks)), .p (.imm 3 (pr eIII s.takes)),sci .i64 n,sci .i64 st, .p (.imm 4 (pr eSt ss)),sci .i64 N,lII ls]])]⟩) (fun i=>s.picks.length - i) (0) [] ?_ ?_ ?_
   ·simp
   ·constructor<;>(try simp (maxSteps:=2000000) (disch:=omega) only [go_sem,simprocAttr,zD,zE,Int.natCast_zero,List.take_of_length_le,List.append_assoc,h1])
   ·rintro i hi
    obtain⟨hi,hinvi⟩:=hi
    ((try refine zW ?_);(try with_reducible exact True.intro))
    by_cases li:i < s.picks.length
    ·have bad: ¬(StaP ss.length s.picks[i].1∧s.picks[i].2.length≤4∧SendsP ls n s.picks[i].2)→tB (PicksP ls n ss.length s)=false:=fun q=>tB_neg fun h=>q (h.2.2 i _ (List.getElem?_eq_getElem li))
     have sn:=all_snoc li hinvi
     generalize hp:s.picks[i]=p at *
     (try simp (maxSteps:=2000000) (disch:=omega) only [go_sem,simprocAttr,zD,zE,ePk,hp])
     (refine at_call 200 ?_;(refine zW ?_;try with_reducible exact True.intro);refine callA_of (pstate_spec s n st ss N ls p.1) zB ?_;((try refine zW ?_);(try with_reducible exact True.intro)))
     by_cases h1:StaP ss.length p.1
     ·have e1:=tB_pos h1
      by_cases h2:4 < p.2.length
      ·have h2':(4:Int) < p.2.length:=by omega
       have e2:=bad fun q=>by have:=q.2.1;omega
       (try simp (maxSteps:=2000000) (disch:=omega) only [go_sem,simprocAttr,zD,zE,e1,h2',e2])
      ·have h2': ¬(4:Int) < p.2.length:=by omega
       (try simp (maxSteps:=2000000) (disch:=omega) only [go_sem,simprocAttr,zD,zE,e1,h2'])
       (refine at_call 200 ?_;(refine zW ?_;try with_reducible exact True.intro);refine callA_view ?_;(refine zW ?_;try with_reducible exact True.intro);refine callV_of (hasSends_spec s n st ss N ls hl p.2 (by omega)) (by first | rfl | (split<;>rfl)) ?_;((try refine zW ?_);(try with_reducible exact True.intro)))
       by_cases h3:SendsP ls n p.2
       ·have e3:=tB_pos h3
        (try simp (maxSteps:=2000000) (disch:=omega) only [go_sem,simprocAttr,zD,zE,e3])
        refine⟨i+1, [],⟨li,sn ⟨h1,by omega,h3⟩⟩,by omega,?_⟩
        constructor<;>((try refine zO ?_);(try with_reducible exact True.intro))
       ·have e3:=tB_neg h3
        have e2:=bad fun q=>h3 q.2.2
        (try simp (maxSteps:=2000000) (disch:=omega) only [go_sem,simprocAttr,zD,zE,e3,e2])
     ·have e1:=tB_neg h1
      have e2:=bad fun q=>h1 q.1
      (try simp (maxSteps:=2000000) (disch:=omega) only [go_sem,simprocAttr,zD,zE,e1,e2])
    ·obtain rfl:i=s.picks.length:=by omega
     have hall:=all_end hinvi
     have e:tB (PicksP ls n ss.length s)=true:=tB_pos ⟨by omega,hm,hall⟩
     (try simp (maxSteps:=2000000) (disch:=omega) only [go_sem,simprocAttr,zD,zE,e])
  ·(try simp (maxSteps:=2000000) (disch:=omega) only [go_sem,simprocAttr,zD,zE,h4',h1,h2])
   (refine walk_trim [1,26,27,28] trivial zL ?_;((try refine zW ?_);(try with_reducible exact True.intro)))
   refine walk_floop 200 200 (fun i:Nat=>i≤s.picks.length∧ ∀(j:Nat) (p:Int × List (Int × Int)),j < i→s.picks[j]? =some p→StaP ss.length p.1∧p.2.length≤4∧SendsP ls n p.2)
    (fun i=>⟨51, [(1, .ptr 0 0 0 0),(26, .p (.imm 2 (pr ePk s.picks))),(27,sci .i64 s.picks.length),(28,sci .i64 i)], [],1, [(0, .arr 9 0 [[sci .i64 s.mode,lI s.waits, .p (.imm 2 (pr ePk s.picks)), .p (.imm 3 (pr eIII s.takes)),sci .i64 n,sci .i64 st, .p (.imm 4 (pr eSt ss)),sci .i64 N,lII ls]])]⟩) (fun i=>s.picks.length - i) (0) [] ?_ ?_ ?_
   ·simp
   ·constructor<;>(try simp (maxSteps:=2000000) (disch:=omega) only [go_sem,simprocAttr,zD,zE,Int.natCast_zero,List.take_of_length_le,List.append_assoc,h1])
   ·rintro i hi
    obtain⟨hi,hinvi⟩:=hi
    ((try refine zW ?_);(try with_reducible exact True.intro))
    by_cases li:i < s.picks.length
    ·exfalso;omega
    ·obtain rfl:i=s.picks.length:=by omega
     have hall:=all_end hinvi
     have e:tB (PicksP ls n ss.length s)=true:=tB_pos ⟨by omega,hm,hall⟩
     (try simp (maxSteps:=2000000) (disch:=omega) only [go_sem,simprocAttr,zD,zE,e])
 ·have e:tB (PicksP ls n ss.length s)=false:=tB_neg fun q=>hm q.2.1
  have h1: ¬s.mode=1:=fun q=>hm (.inl q)
  have h2:(0:Int) < s.picks.length:=by
   have: ¬s.picks.length=0:=fun q=>hm (.inr q)
   omega
  (try simp (maxSteps:=2000000) (disch:=omega) only [go_sem,simprocAttr,zD,zE,h4',h1,h2,e])
include hl in
theorem takes_spec (ht:s.takes.length≤1000000):Pure Tryz.prog 127 [.agg [sci .i64 s.mode,lI s.waits, .p (.imm 2 (pr ePk s.picks)), .p (.imm 3 (pr eIII s.takes)),sci .i64 n,sci .i64 st, .p (.imm 4 (pr eSt ss)),sci .i64 N,lII ls]] (scb (tB (TakesP ls n ss.length s))):=by
 refine pcall0 200 (fn:=Tryz.f127) Tryz.func127 rfl (by simp [Tryz.ntmps127]) zB zB fun hs=>?_
 ((try refine zW ?_);(try with_reducible exact True.intro))
 (refine walk_trim [1,8,9,10] trivial zL ?_;((try refine zW ?_);(try with_reducible exact True.intro)))
 refine walk_floop 200 200 (fun i:Nat=>i≤s.takes.length∧ ∀(j:Nat) (t:Int × Int × Int),j < i→s.takes[j]? =some t→(t.1,n)∈ls∧LetP t.2.1∧StaP ss.length t.2.2∧Once (s.takes.take j) t)
  (fun i=>⟨44, [(1, .ptr 0 0 0 0),(8, .p (.imm 3 (pr eIII s.takes))),(9,sci .i64 s.takes.length),(10,sci .i64 i)], [],1, [(0, .arr 9 0 [[sci .i64 s.mode,lI s.waits, .p (.imm 2 (pr ePk s.picks)), .p (.imm 3 (pr eIII s.takes)),sci .i64 n,sci .i64 st, .p (.imm 4 (pr eSt ss)),sci .i64 N,lII ls]])]⟩) (fun i=>s.takes.length - i) (0) [] ?_ ?_ ?_
 ·simp
 ·constructor<;>(try simp (maxSteps:=2000000) (disch:=omega) only [go_sem,simprocAttr,zD,zE,Int.natCast_zero,List.take_of_length_le,List.append_assoc])
 ·rintro i hi
  obtain⟨hi,hinvi⟩:=hi
  ((try refine zW ?_);(try with_reducible exact True.intro))
  by_cases li:i < s.takes.length
  ·have bad: ¬((s.takes[i].1,n)∈ls∧LetP s.takes[i].2.1∧StaP ss.length s.takes[i].2.2∧Once (s.takes.take i) s.takes[i])→tB (TakesP ls n ss.length s)=false:=fun q=>tB_neg fun h=>q (h i _ (List.getElem?_eq_getElem li))
   have sn:=all_snoc li hinvi
   generalize hp:s.takes[i]=t at *
   obtain⟨a,b,c⟩:=t
   simp only at bad sn
   (try simp (maxSteps:=2000000) (disch:=omega) only [go_sem,simprocAttr,zD,zE,eIII,hp])
   (refine at_call 200 ?_;(refine zW ?_;try with_reducible exact True.intro);refine callA_of (pin_spec s n st ss N ls hl a) zB ?_;((try refine zW ?_);(try with_reducible exact True.intro)))
   by_cases h1:(a,n)∈ls
   ·have e1:=tB_pos h1
    (try simp (maxSteps:=2000000) (disch:=omega) only [go_sem,simprocAttr,zD,zE,e1])
    (refine at_call 200 ?_;(refine zW ?_;try with_reducible exact True.intro);refine callA_of (letter_spec b) zB ?_;((try refine zW ?_);(try with_reducible exact True.intro)))
    by_cases h2:LetP b
    ·have e2:=tB_pos h2
     (try simp (maxSteps:=2000000) (disch:=omega) only [go_sem,simprocAttr,zD,zE,e2])
     (refine at_call 200 ?_;(refine zW ?_;try with_reducible exact True.intro);refine callA_of (pstate_spec s n st ss N ls c) zB ?_;((try refine zW ?_);(try with_reducible exact True.intro)))
     by_cases h3:StaP ss.length c
     ·have e3:=tB_pos h3
      (try simp (maxSteps:=2000000) (disch:=omega) only [go_sem,simprocAttr,zD,zE,e3])
      (refine at_call 200 ?_;(refine zW ?_;try with_reducible exact True.intro);refine callA_view ?_;(refine zW ?_;try with_reducible exact True.intro);refine callV_of (hasTakes_spec (s.takes.take i) (a,b,c) (by simp;omega)) (by first | rfl | (split<;>rfl)) ?_;((try refine zW ?_);(try with_reducible exact True.intro)))
      by_cases h4:Once (s.takes.take i) (a,b,c)
      ·have e4:=tB_pos h4
       (try simp (maxSteps:=2000000) (disch:=omega) only [go_sem,simprocAttr,zD,zE,e4])
       refine⟨i+1, [],⟨li,sn ⟨h1,h2,h3,h4⟩⟩,by omega,?_⟩
       constructor<;>((try refine zO ?_);(try with_reducible exact True.intro))
      ·have e4:=tB_neg h4
       have e:=bad fun q=>h4 q.2.2.2
       (try simp (maxSteps:=2000000) (disch:=omega) only [go_sem,simprocAttr,zD,zE,e4,e])
     ·have e3:=tB_neg h3
      have e:=bad fun q=>h3 q.2.2.1
      (try simp (maxSteps:=2000000) (disch:=omega) only [go_sem,simprocAttr,zD,zE,e3,e])
    ·have e2:=tB_neg h2
     have e:=bad fun q=>h2 q.2.1
     (try simp (maxSteps:=2000000) (disch:=omega) only [go_sem,simprocAttr,zD,zE,e2,e])
   ·have e1:=tB_neg h1
    have e:=bad fun q=>h1 q.1
    (try simp (maxSteps:=2000000) (disch:=omega) only [go_sem,simprocAttr,zD,zE,e1,e])
  ·obtain rfl:i=s.takes.length:=by omega
   have hall:=all_end hinvi
   have e:tB (TakesP ls n ss.length s)=true:=tB_pos hall
   (try simp (maxSteps:=2000000) (disch:=omega) only [go_sem,simprocAttr,zD,zE,e])
end Go.Proofs.GY
/- Tables: what stays; which states may be; which tables may be. -/
namespace Go.Proofs.GY
open Go Go.Idl Go.Proofs Go.GP
set_option maxHeartbeats 20000000
set_option maxRecDepth 100000
variable (s:St) (n st:Int) (ss:List St) (N:Int) (ls:List (Int × Int)) (hl:ls.length≤1000000)
theorem stays_spec (hix: ∀(j:Nat) (t:Int × Int × Int),s.takes[j]? =some t→StaP ss.length t.2.2) (ht:s.takes.length≤1000000) (hw:s.waits.length≤1000000):
  Pure Tryz.prog 128 [.agg [sci .i64 s.mode,lI s.waits, .p (.imm 2 (pr ePk s.picks)), .p (.imm 3 (pr eIII s.takes)),sci .i64 n,sci .i64 st, .p (.imm 4 (pr eSt ss)),sci .i64 N,lII ls]] (scb (tB (StaysP ss s))):=by
 refine pcall0 200 (fn:=Tryz.f128) Tryz.func128 rfl (by simp [Tryz.ntmps128]) zB zB fun hs=>?_
 ((try refine zW ?_);(try with_reducible exact True.intro))
 (refine walk_trim [1,10,11,12] trivial zL ?_;((try refine zW ?_);(try with_reducible exact True.intro)))
 refine walk_floop 200 200 (fun i:Nat=>i≤s.takes.length∧ ∀(j:Nat) (t:Int × Int × Int),j < i→s.takes[j]? =some t→KeptP ss s t)
  (fun i=>⟨49, [(1, .ptr 0 0 0 0),(10, .p (.imm 3 (pr eIII s.takes))),(11,sci .i64 s.takes.length),(12,sci .i64 i)], [],1, [(0, .arr 9 0 [[sci .i64 s.mode,lI s.waits, .p (.imm 2 (pr ePk s.picks)), .p (.imm 3 (pr eIII s.takes)),sci .i64 n,sci .i64 st, .p (.imm 4 (pr eSt ss)),sci .i64 N,lII ls]])]⟩) (fun i=>s.takes.length - i) (0) [] ?_ ?_ ?_
 ·simp
 ·constructor<;>(try simp (maxSteps:=2000000) (disch:=omega) only [go_sem,simprocAttr,zD,zE,Int.natCast_zero,List.take_of_length_le,List.append_assoc])
 ·rintro i hi
  obtain⟨hi,hinvi⟩:=hi
  ((try refine zW ?_);(try with_reducible exact True.intro))
  by_cases li:i < s.takes.length
  ·have bad: ¬KeptP ss s s.takes[i]→tB (StaysP ss s)=false:=fun q=>tB_neg fun h=>q (h i _ (List.getElem?_eq_getElem li))
   have sn:=all_snoc li hinvi
   obtain⟨c0,c1⟩:=hix i _ (List.getElem?_eq_getElem li)
   generalize hp:s.takes[i]=t at *
   obtain⟨a,b,c⟩:=t
   simp only at c0 c1
   obtain⟨c,rfl⟩:=Int.eq_ofNat_of_zero_le c0
   have hc:c < ss.length:=by omega
   have gc:(pr eSt ss)[c]? =some (eSt ss[c]):=pr_get hc
   have gs:ss[c]? =some ss[c]:=List.getElem?_eq_getElem hc
   (try simp (maxSteps:=2000000) (disch:=omega) only [go_sem,simprocAttr,zD,zE,eIII,hp])
   (refine walk_trim [1,4,10,11,12,18,19,20] trivial zL ?_;((try refine zW ?_);(try with_reducible exact True.intro)))
   refine walk_floop 200 200 (fun k:Nat=>k≤s.waits.length∧ ∀(j:Nat) (w:Int),j < k→s.waits[j]? =some w→w≠a→ ∀to,ss[c]? =some to→to.mode=2∧w∈to.waits)
    (fun k=>⟨49, [(1, .ptr 0 0 0 0),(4, .ptr 1 0 0 0),(10, .p (.imm 3 (pr eIII s.takes))),(11,sci .i64 s.takes.length),(12,sci .i64 i),(18,lI s.waits),(19,sci .i64 s.waits.length),(20,sci .i64 k)], [],2, [(1, .arr 3 0 [[sci .i64 a,sci .i64 b,sci .i64 c]]),(0, .arr 9 0 [[sci .i64 s.mode,lI s.waits, .p (.imm 2 (pr ePk s.picks)), .p (.imm 3 (pr eIII s.takes)),sci .i64 n,sci .i64 st, .p (.imm 4 (pr eSt ss)),sci .i64 N,lII ls]])]⟩) (fun k=>s.waits.length - k) (0) [] ?_ ?_ ?_
   ·simp
   ·constructor<;>(try simp (maxSteps:=2000000) (disch:=omega) only [go_sem,simprocAttr,zD,zE,Int.natCast_zero,List.take_of_length_le,List.append_assoc])
   ·rintro k hk
    obtain⟨hk,hinvk⟩:=hk
    ((try refine zW ?_);(try with_reducible exact True.intro))
    by_cases lk:k < s.waits.length
    ·have bad2: ¬(s.waits[k]≠a→ss[c].mode=2∧s.waits[k]∈ss[c].waits)→tB (StaysP ss s)=false:=fun q=>bad fun h=>q fun h2=>h k _ (List.getElem?_eq_getElem lk) h2 _ (by simp)
     have sn2:=all_snoc lk hinvk
     have kp:(s.waits[k]≠a→ss[c].mode=2∧s.waits[k]∈ss[c].waits)→ ∀to,s.waits[k]≠a→ss[c]? =some to→to.mode=2∧s.waits[k]∈to.waits:=fun q to h2 e=>by rw [gs] at e;cases e;exact q h2
     generalize hx:ss[c]=x at *
     obtain⟨tm,tw,tp,tt⟩:=x
     simp only at bad2 kp
     (try simp (maxSteps:=2000000) (disch:=omega) only [go_sem,simprocAttr,zD,zE,eI,gc,eSt])
     by_cases h1:s.waits[k]=a
     ·(try simp (maxSteps:=2000000) (disch:=omega) only [go_sem,simprocAttr,zD,zE,h1])
      refine⟨k+1, [],⟨lk,sn2 fun h2=>absurd h1 h2⟩,by omega,?_⟩
      constructor<;>((try refine zO ?_);(try with_reducible exact True.intro))
     ·by_cases h2:tm=2
      ·(try simp (maxSteps:=2000000) (disch:=omega) only [go_sem,simprocAttr,zD,zE,h1,h2])
       (refine at_call 200 ?_;(refine zW ?_;try with_reducible exact True.intro);refine callA_of (Contains_spec tw s.waits[k]) zB ?_;((try refine zW ?_);(try with_reducible exact True.intro)))
       by_cases h3:s.waits[k]∈tw
       ·(try simp (maxSteps:=2000000) (disch:=omega) only [go_sem,simprocAttr,zD,zE,h3])
        refine⟨k+1, [],⟨lk,sn2 fun q to e=>kp (fun _=>⟨h2,h3⟩) to q e⟩,by omega,?_⟩
        constructor<;>((try refine zO ?_);(try with_reducible exact True.intro))
       ·have e:=bad2 fun q=>h3 (q h1).2
        (try simp (maxSteps:=2000000) (disch:=omega) only [go_sem,simprocAttr,zD,zE,h3,e])
      ·have e:=bad2 fun q=>h2 (q h1).1
       (try simp (maxSteps:=2000000) (disch:=omega) only [go_sem,simprocAttr,zD,zE,h1,h2,e])
    ·obtain rfl:k=s.waits.length:=by omega
     have hall:=all_end hinvk
     ((try refine zO ?_);(try with_reducible exact True.intro))
     refine⟨i+1, [],⟨li,sn hall⟩,by omega,?_⟩
     constructor<;>((try refine zO ?_);(try with_reducible exact True.intro))
  ·obtain rfl:i=s.takes.length:=by omega
   have e:tB (StaysP ss s)=true:=tB_pos (all_end hinvi)
   (try simp (maxSteps:=2000000) (disch:=omega) only [go_sem,simprocAttr,zD,zE,e])
def SmallSt (s:St):Prop:=s.waits.length≤1000000∧s.picks.length≤1000000∧s.takes.length≤1000000
include hl in
theorem may_spec (hs:SmallSt s):Pure Tryz.prog 93 [.agg [sci .i64 s.mode,lI s.waits, .p (.imm 2 (pr ePk s.picks)), .p (.imm 3 (pr eIII s.takes)),sci .i64 n,sci .i64 st, .p (.imm 4 (pr eSt ss)),sci .i64 N,lII ls]] (scb (tB (MayP ls n ss s))):=by
 obtain⟨hs1,hs2,hs3⟩:=hs
 refine pcall0 200 (fn:=Tryz.f93) Tryz.func93 rfl (by simp [Tryz.ntmps93]) zB zB fun hs=>?_
 ((try refine zW ?_);(try with_reducible exact True.intro))
 (refine walk_trim [21,22,23] trivial zL ?_;((try refine zW ?_);(try with_reducible exact True.intro)))
 refine walk_floop 200 200 (fun i:Nat=>i≤5∧(1≤i→ModeP s)∧(2≤i→WaitsP ls n s)∧(3≤i→PicksP ls n ss.length s)∧(4≤i→TakesP ls n ss.length s)∧(5≤i→StaysP ss s))
  (fun i=>⟨32, [(21, .ref 1 0 0 5),(22,sci .i64 5),(23,sci .i64 i)], [],2, [(1, .arr 1 0 [[.clo (.func 124) [] [.ptr 0 0 0 0]], [.clo (.func 125) [.agg [sci .i64 s.mode,lI s.waits, .p (.imm 2 (pr ePk s.picks)), .p (.imm 3 (pr eIII s.takes)),sci .i64 n,sci .i64 st, .p (.imm 4 (pr eSt ss)),sci .i64 N,lII ls]] []], [.clo (.func 126) [.agg [sci .i64 s.mode,lI s.waits, .p (.imm 2 (pr ePk s.picks)), .p (.imm 3 (pr eIII s.takes)),sci .i64 n,sci .i64 st, .p (.imm 4 (pr eSt ss)),sci .i64 N,lII ls]] []], [.clo (.func 127) [.agg [sci .i64 s.mode,lI s.waits, .p (.imm 2 (pr ePk s.picks)), .p (.imm 3 (pr eIII s.takes)),sci .i64 n,sci .i64 st, .p (.imm 4 (pr eSt ss)),sci .i64 N,lII ls]] []], [.clo (.func 128) [.agg [sci .i64 s.mode,lI s.waits, .p (.imm 2 (pr ePk s.picks)), .p (.imm 3 (pr eIII s.takes)),sci .i64 n,sci .i64 st, .p (.imm 4 (pr eSt ss)),sci .i64 N,lII ls]] []]]),(0, .arr 9 0 [[sci .i64 s.mode,lI s.waits, .p (.imm 2 (pr ePk s.picks)), .p (.imm 3 (pr eIII s.takes)),sci .i64 n,sci .i64 st, .p (.imm 4 (pr eSt ss)),sci .i64 N,lII ls]])]⟩) (fun i=>5 - i) (0) [] ?_ ?_ ?_
 ·simp
 ·constructor<;>(try simp (maxSteps:=2000000) (disch:=omega) only [go_sem,simprocAttr,zD,zE,Int.natCast_zero,List.take_of_length_le,List.append_assoc])
 ·rintro i hi
  obtain⟨hi,hinvi⟩:=hi
  ((try refine zW ?_);(try with_reducible exact True.intro))
  by_cases li:i < 5
  ·obtain⟨q1,q2,q3,q4,q5⟩:=hinvi
   obtain rfl | rfl | rfl | rfl | rfl:i=0∨i=1∨i=2∨i=3∨i=4:=by omega
   ·((try refine zO ?_);(try with_reducible exact True.intro))
    (refine at_call 200 ?_;(refine zW ?_;try with_reducible exact True.intro);refine callA_view ?_;(refine zW ?_;try with_reducible exact True.intro);refine callV_of (mode_spec s n st ss N ls) (by first | rfl | (split<;>rfl)) ?_;((try refine zW ?_);(try with_reducible exact True.intro)))
    by_cases h:ModeP s
    ·have e:=tB_pos h
     (try simp (maxSteps:=2000000) (disch:=omega) only [go_sem,simprocAttr,zD,zE,e])
     refine⟨1, [],⟨by omega,fun _=>h,fun q=>by omega,fun q=>by omega,fun q=>by omega,fun q=>by omega⟩,by omega,?_⟩
     constructor<;>((try refine zO ?_);(try with_reducible exact True.intro))
    ·have e:=tB_neg h
     have e2:tB (MayP ls n ss s)=false:=tB_neg fun q=>h q.1
     (try simp (maxSteps:=2000000) (disch:=omega) only [go_sem,simprocAttr,zD,zE,e,e2])
   ·((try refine zO ?_);(try with_reducible exact True.intro))
    (refine at_call 200 ?_;(refine zW ?_;try with_reducible exact True.intro);refine callA_of (waits_spec s n st ss N ls hl hs1) zB ?_;((try refine zW ?_);(try with_reducible exact True.intro)))
    by_cases h:WaitsP ls n s
    ·have e:=tB_pos h
     (try simp (maxSteps:=2000000) (disch:=omega) only [go_sem,simprocAttr,zD,zE,e])
     refine⟨2, [],⟨by omega,fun _=>q1 (by omega),fun _=>h,fun q=>by omega,fun q=>by omega,fun q=>by omega⟩,by omega,?_⟩
     constructor<;>((try refine zO ?_);(try with_reducible exact True.intro))
    ·have e:=tB_neg h
     have e2:tB (MayP ls n ss s)=false:=tB_neg fun q=>h q.2.1
     (try simp (maxSteps:=2000000) (disch:=omega) only [go_sem,simprocAttr,zD,zE,e,e2])
   ·((try refine zO ?_);(try with_reducible exact True.intro))
    (refine at_call 200 ?_;(refine zW ?_;try with_reducible exact True.intro);refine callA_of (picks_spec s n st ss N ls hl hs2) zB ?_;((try refine zW ?_);(try with_reducible exact True.intro)))
    by_cases h:PicksP ls n ss.length s
    ·have e:=tB_pos h
     (try simp (maxSteps:=2000000) (disch:=omega) only [go_sem,simprocAttr,zD,zE,e])
     refine⟨3, [],⟨by omega,fun _=>q1 (by omega),fun _=>q2 (by omega),fun _=>h,fun q=>by omega,fun q=>by omega⟩,by omega,?_⟩
     constructor<;>((try refine zO ?_);(try with_reducible exact True.intro))
    ·have e:=tB_neg h
     have e2:tB (MayP ls n ss s)=false:=tB_neg fun q=>h q.2.2.1
     (try simp (maxSteps:=2000000) (disch:=omega) only [go_sem,simprocAttr,zD,zE,e,e2])
   ·((try refine zO ?_);(try with_reducible exact True.intro))
    (refine at_call 200 ?_;(refine zW ?_;try with_reducible exact True.intro);refine callA_of (takes_spec s n st ss N ls hl hs3) zB ?_;((try refine zW ?_);(try with_reducible exact True.intro)))
    by_cases h:TakesP ls n ss.length s
    ·have e:=tB_pos h
     (try simp (maxSteps:=2000000) (disch:=omega) only [go_sem,simprocAttr,zD,zE,e])
     refine⟨4, [],⟨by omega,fun _=>q1 (by omega),fun _=>q2 (by omega),fun _=>q3 (by omega),fun _=>h,fun q=>by omega⟩,by omega,?_⟩
     constructor<;>((try refine zO ?_);(try with_reducible exact True.intro))
    ·have e:=tB_neg h
     have e2:tB (MayP ls n ss s)=false:=tB_neg fun q=>h q.2.2.2.1
     (try simp (maxSteps:=2000000) (disch:=omega) only [go_sem,simprocAttr,zD,zE,e,e2])
   ·have hT:=q4 (by omega)
    ((try refine zO ?_);(try with_reducible exact True.intro))
    (refine at_call 200 ?_;(refine zW ?_;try with_reducible exact True.intro);refine callA_of (stays_spec s n st ss N ls (fun j t e=>(hT j t e).2.2.1) hs3 hs1) zB ?_;((try refine zW ?_);(try with_reducible exact True.intro)))
    by_cases h:StaysP ss s
    ·have e:=tB_pos h
     (try simp (maxSteps:=2000000) (disch:=omega) only [go_sem,simprocAttr,zD,zE,e])
     refine⟨5, [],⟨by omega,fun _=>q1 (by omega),fun _=>q2 (by omega),fun _=>q3 (by omega),fun _=>hT,fun _=>h⟩,by omega,?_⟩
     constructor<;>((try refine zO ?_);(try with_reducible exact True.intro))
    ·have e:=tB_neg h
     have e2:tB (MayP ls n ss s)=false:=tB_neg fun q=>h q.2.2.2.2
     (try simp (maxSteps:=2000000) (disch:=omega) only [go_sem,simprocAttr,zD,zE,e,e2])
  ·obtain rfl:i=5:=by omega
   obtain⟨q1,q2,q3,q4,q5⟩:=hinvi
   have e:tB (MayP ls n ss s)=true:=tB_pos ⟨q1 (by omega),q2 (by omega),q3 (by omega),q4 (by omega),q5 (by omega)⟩
   (try simp (maxSteps:=2000000) (disch:=omega) only [go_sem,simprocAttr,zD,zE,e])
end Go.Proofs.GY
