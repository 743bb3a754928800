/- Facts that the proofs of this claim lean on. -/
import Derived.Test.YteebghpjgcacmaaGreatYzP2
import Derived.Test.YteebghpjgcacmaaGreatYWk
set_option linter.unusedSimpArgs false
set_option linter.unusedVariables false
/- What a node may tell: the program's answer. -/
namespace Go.Proofs.GY
open Go Go.Idl Go.Proofs
set_option maxHeartbeats 20000000
set_option maxRecDepth 100000
def MsgP (last:Int) (x:Int × Int):Prop:=last < x.1∧x.1≤500∧0≤x.2∧x.2≤3
def RisP:Int→List (Int × Int)→Prop
 | _, []=>True
 | last,x::r=>MsgP last x∧RisP x.1 r
def qe9 (l:List Int):Prop:= ∀(j:Nat) (x:Int),j < l.length→l[j]? =some x→0≤x∧x≤3
def ToldP (p:Pc):Prop:=0≤p.steps∧p.steps≤2147483647∧p.sent.length≤5∧p.inn.length≤5∧p.out.length≤5∧(∀(j:Nat) (x:Int),j < p.sent.length→p.sent[j]? =some x→0≤x∧x≤500)∧(∀(j:Nat) (l:List (Int × Int)),j < p.inn.length→p.inn[j]? =some l→RisP 0 l)∧ ∀(j:Nat) (l:List Int),j < p.out.length→p.out[j]? =some l→l.length≤500∧qe9 l
def qcp (p:Pc):Prop:=(0≤p.node∧p.node≤5)∧(0≤p.state∧p.state≤7)∧ToldP p
theorem qb6 (n m:Int):Pure Tryz.prog 94 [sci .i64 n,sci .i64 m] (scb (tB (0≤n∧n≤m))):=by
 refine qaf 200 (fn:=Tryz.f94) Tryz.func94 rfl (by simp [Tryz.ntmps94]) zB zB fun hs=>?_
 try refine zW ?_
 by_cases h1:0≤n
 ·by_cases h2:n≤m
  ·have e:tB (0≤n∧n≤m)=true:=qam ⟨h1,h2⟩
   (try simp (disch:=omega) only [go_sem,simprocAttr,zD,zE,e])
  ·have e:tB (0≤n∧n≤m)=false:=qah fun q=>h2 q.2
   (try simp (disch:=omega) only [go_sem,simprocAttr,zD,zE,e])
 ·have e:tB (0≤n∧n≤m)=false:=qah fun q=>h1 q.1
  (try simp (disch:=omega) only [go_sem,simprocAttr,zD,zE,e])
theorem qlE (n:Int):Pure Tryz.prog 96 [sci .i64 n] (scb (!tB (0≤n∧n≤3))):=by
 refine qaf 200 (fn:=Tryz.f96) Tryz.func96 rfl (by simp [Tryz.ntmps96]) zB zB fun hs=>?_
 try refine zW ?_
 (refine qac 200 ?_;refine zW ?_;refine callA_of (qb6 n 3) zB ?_;((try refine zW ?_);(try with_reducible exact True.intro)))
 ((try refine zO ?_);(try with_reducible exact True.intro))
theorem ql2 (l:List (Int × Int)):Pure Tryz.prog 95 [lII l] (scb (tB (RisP 0 l))):=by
 refine qaf 200 (fn:=Tryz.f95) Tryz.func95 rfl (by simp [Tryz.ntmps95]) zB zB fun hs=>?_
 simp only [go_sem,simprocAttr,maxLen] at hs
 obtain⟨ha, -⟩:=hs
 try refine zW ?_
 (refine walk_trim [3,6,7,8] trivial zL ?_;((try refine zW ?_);(try with_reducible exact True.intro)))
 refine qaP 200 200 (fun s:Nat × Int=>s.1≤l.length∧(RisP s.2 (l.drop s.1)↔RisP 0 l)) (fun s=>⟨30, [(3,sci .i64 s.2),(6,lII l),(7,sci .i64 l.length),(8,sci .i64 s.1)], [],0, []⟩) (fun s=>l.length - s.1) (0,0) ?_ ?_ ?_
 ·simp
 ·constructor<;>(try simp (disch:=omega) only [go_sem,simprocAttr,zD,zE,Int.natCast_zero])
 ·rintro⟨i,last⟩ ⟨h1,h2⟩
  simp only at h1 h2
  try refine zW ?_
  by_cases hl:i < l.length
  ·have e0:l.drop i=l[i]::l.drop (i+1):=List.drop_eq_getElem_cons hl
   rw [e0] at h2
   (try simp (disch:=omega) only [go_sem,simprocAttr,zD,zE,eII])
   generalize l[i]=x at *
   obtain⟨sq,lt⟩:=x
   have bad: ¬MsgP last (sq,lt)→tB (RisP 0 l)=false:=fun q=>qah fun h=>q (h2.2 h).1
   by_cases g1:sq≤last
   ·have e:=bad fun q=>by have:=q.1;simp only at this;omega
    (try simp (disch:=omega) only [go_sem,simprocAttr,zD,zE,g1,e])
   by_cases g2:500 < sq
   ·have e:=bad fun q=>by have:=q.2.1;simp only at this;omega
    (try simp (disch:=omega) only [go_sem,simprocAttr,zD,zE,g1,g2,e])
   (try simp (disch:=omega) only [go_sem,simprocAttr,zD,zE,g1,g2])
   (refine qac 200 ?_;refine zW ?_;refine callA_of (qb6 lt 3) zB ?_;((try refine zW ?_);(try with_reducible exact True.intro)))
   by_cases g3:0≤lt∧lt≤3
   ·have e:tB (0≤lt∧lt≤3)=true:=qam g3
    (try simp (disch:=omega) only [go_sem,simprocAttr,zD,zE,e])
    refine⟨(i+1,sq),⟨hl,⟨fun q=>h2.1 ⟨⟨by simp only;omega,by simp only;omega,g3⟩,q⟩,fun q=>(h2.2 q).2⟩⟩,by simp only;omega,?_⟩
    constructor<;>((try refine zO ?_);(try with_reducible exact True.intro))
   ·have e:tB (0≤lt∧lt≤3)=false:=qah g3
    have e2:=bad fun q=>g3 q.2.2
    (try simp (disch:=omega) only [go_sem,simprocAttr,zD,zE,e,e2])
  ·obtain rfl:i=l.length:=by omega
   have e:tB (RisP 0 l)=true:=qam (h2.1 (by rw [List.drop_length];trivial))
   (try simp (disch:=omega) only [go_sem,simprocAttr,zD,zE,e])
abbrev fR1:IV:= .p (.sc (.func (.func 96) #[] #[]))
theorem qn8 (l:List Int) (hk:l.length≤1000000):Pure Tryz.prog 129 [lI l,fR1]
  (sci .i64 (qa8 (fun x=>!tB (0≤x∧x≤3)) 0 l)):=by
 refine qaf 200 (fn:=Tryz.f129) Tryz.func129 rfl (by simp [Tryz.ntmps129]) zB zB fun hs=>?_
 try refine zW ?_
 refine qad 200 200 (fun i:Nat=>i≤l.length∧qa8 (fun x=>!tB (0≤x∧x≤3)) i (l.drop i)=qa8 (fun x=>!tB (0≤x∧x≤3)) 0 l)
  (fun i=>⟨19, [(0,lI l),(1,fR1),(7,sci .i64 l.length),(8,sci .i64 i)], [],0, []⟩) (fun i=>l.length - i) (0) [] ?_ ?_ ?_
 ·simp
 ·constructor<;>(try simp (disch:=omega) only [go_sem,simprocAttr,zD,zE,Int.natCast_zero,List.take_of_length_le,List.append_assoc])
 ·rintro i hi
  obtain⟨hi,hinvi⟩:=hi
  try refine zW ?_
  by_cases li:i < l.length
  ·rw [qbl li,qa8] at hinvi
   (try simp (disch:=omega) only [go_sem,simprocAttr,zD,zE,eI])
   (refine qac 200 ?_;refine zW ?_;refine callA_of (qlE l[i]) zB ?_;((try refine zW ?_);(try with_reducible exact True.intro)))
   cases e:tB (0≤l[i]∧l[i]≤3)
   ·simp only [e,Bool.not_false,if_true] at hinvi
    (try simp (disch:=omega) only [go_sem,simprocAttr,zD,zE,←hinvi])
   ·simp only [e,Bool.not_true,Bool.false_eq_true,if_false] at hinvi
    try refine zO ?_
    refine⟨i+1, [],⟨by first | assumption | omega,hinvi⟩,?_,?_⟩
    ·(try simp only []);omega
    ·constructor<;>(try simp (disch:=omega) only [go_sem,simprocAttr,zD,zE,List.append_assoc])
  ·obtain rfl:i=l.length:=by omega
   rw [List.drop_length] at hinvi
   (try simp (disch:=omega) only [go_sem,simprocAttr,zD,zE,←hinvi,qa8])
theorem qn5 (l:List Int) (hk:l.length≤1000000):Pure Tryz.prog 97 [lI l,fR1] (scb (!tB (qe9 l))):=by
 have e:decide (0≤qa8 (fun x=>!tB (0≤x∧x≤3)) 0 l)= !tB (qe9 l):=by
  rw [qli,←qdg]
  refine qcU ?_
  rw [qdP]
  constructor
  ·rintro⟨x,hx,h⟩ q
   obtain⟨j,hj,rfl⟩:=List.getElem_of_mem hx
   have:=q j _ hj (List.getElem?_eq_getElem hj)
   rw [qam this] at h;cases h
  ·intro h
   refine Classical.byContradiction fun q=>h fun j x _ hx=>?_
   have hm:x∈l:=List.mem_of_getElem? hx
   refine Classical.byContradiction fun q2=>q ⟨x,hm,?_⟩
   rw [qah q2];rfl
 refine qaf 200 (fn:=Tryz.f97) Tryz.func97 rfl (by simp [Tryz.ntmps97]) zB zB fun hs=>?_
 try refine zW ?_
 (refine qac 200 ?_;refine zW ?_;refine callA_of (qn8 l hk) zB ?_;((try refine zW ?_);(try with_reducible exact True.intro)))
 (try simp (disch:=omega) only [go_sem,simprocAttr,zD,zE,e])
theorem ql1 (h:Pc) (hg:gPc h):Pure Tryz.prog 52 [lPc h] (scb (tB (qcp h))):=by
 obtain⟨node,state,steps,sent,inn,out⟩:=h
 obtain⟨b1,b2,b3,b4,b5⟩:=hg
 simp only at b1 b2 b3 b4 b5
 have bad: ∀ {q:Prop},(qcp ⟨node,state,steps,sent,inn,out⟩→q)→ ¬q→tB (qcp ⟨node,state,steps,sent,inn,out⟩)=false:=fun f g=>qah fun h=>g (f h)
 refine qaf 200 (fn:=Tryz.f52) Tryz.func52 rfl (by simp [Tryz.ntmps52]) zB zB fun hs=>?_
 try refine zW ?_
 (refine qac 200 ?_;refine zW ?_;refine callA_of (qb6 node 5) zB ?_;((try refine zW ?_);(try with_reducible exact True.intro)))
 by_cases hn:0≤node∧node≤5
 rotate_left
 ·have en:tB (0≤node∧node≤5)=false:=qah hn
  have e:=bad (fun q=>q.1) hn
  (try simp (maxSteps:=2000000) (disch:=omega) only [go_sem,simprocAttr,zD,zE,en,e])
 have en:tB (0≤node∧node≤5)=true:=qam hn
 (try simp (maxSteps:=2000000) (disch:=omega) only [go_sem,simprocAttr,zD,zE,en])
 (refine qac 200 ?_;refine zW ?_;refine callA_of (qb6 state 7) zB ?_;((try refine zW ?_);(try with_reducible exact True.intro)))
 by_cases hs:0≤state∧state≤7
 rotate_left
 ·have es:tB (0≤state∧state≤7)=false:=qah hs
  have e:=bad (fun q=>q.2.1) hs
  (try simp (maxSteps:=2000000) (disch:=omega) only [go_sem,simprocAttr,zD,zE,es,e])
 have es:tB (0≤state∧state≤7)=true:=qam hs
 (try simp (maxSteps:=2000000) (disch:=omega) only [go_sem,simprocAttr,zD,zE,es])
 (refine qac 200 ?_;refine zW ?_;refine callA_of (qb6 steps 2147483647) zB ?_;((try refine zW ?_);(try with_reducible exact True.intro)))
 by_cases h1:0≤steps∧steps≤2147483647
 ·have e1:tB (0≤steps∧steps≤2147483647)=true:=qam h1
  by_cases h0:5 < sent.length
  ·have e:=bad (fun q=>q.2.2.2.2.1) (by simp only;omega)
   (try simp (maxSteps:=2000000) (disch:=omega) only [go_sem,simprocAttr,zD,zE,e1,e])
  by_cases h2:5 < inn.length
  ·have e:=bad (fun q=>q.2.2.2.2.2.1) (by simp only;omega)
   (try simp (maxSteps:=2000000) (disch:=omega) only [go_sem,simprocAttr,zD,zE,e1,e])
  by_cases h3:5 < out.length
  ·have e:=bad (fun q=>q.2.2.2.2.2.2.1) (by simp only;omega)
   (try simp (maxSteps:=2000000) (disch:=omega) only [go_sem,simprocAttr,zD,zE,e1,e])
  (try simp (maxSteps:=2000000) (disch:=omega) only [go_sem,simprocAttr,zD,zE,e1])
  (refine walk_trim [1,40,41,42] trivial zL ?_;((try refine zW ?_);(try with_reducible exact True.intro)))
  refine qad 200 200 (fun i:Nat=>i≤sent.length∧ ∀(k:Nat) (x:Int),k < i→sent[k]? =some x→0≤x∧x≤500)
   (fun i=>⟨77, [(1, .ptr 0 0 0 0),(40,lI sent),(41,sci .i64 sent.length),(42,sci .i64 i)], [],1, [(0, .arr 6 0 [[sci .i64 node,sci .i64 state,sci .i64 steps,lI sent,lMs inn,lLs out]])]⟩) (fun i=>sent.length - i) (0) [] ?_ ?_ ?_
  ·simp
  ·constructor<;>(try simp (maxSteps:=2000000) (disch:=omega) only [go_sem,simprocAttr,zD,zE,Int.natCast_zero,List.take_of_length_le,List.append_assoc])
  ·rintro i hi
   obtain⟨hi,hinvi⟩:=hi
   try refine zW ?_
   by_cases li:i < sent.length
   ·have sn:=qaC li hinvi
    have bd: ¬(0≤sent[i]∧sent[i]≤500)→tB (qcp ⟨node,state,steps,sent,inn,out⟩)=false:=fun q=>qah fun h=>q (h.2.2.2.2.2.2.2.1 i _ li (List.getElem?_eq_getElem li))
    (try simp (maxSteps:=2000000) (disch:=omega) only [go_sem,simprocAttr,zD,zE,eI])
    (refine qac 200 ?_;refine zW ?_;refine callA_of (qb6 sent[i] 500) zB ?_;((try refine zW ?_);(try with_reducible exact True.intro)))
    by_cases g:0≤sent[i]∧sent[i]≤500
    ·have e:=qam g
     (try simp (maxSteps:=2000000) (disch:=omega) only [go_sem,simprocAttr,zD,zE,e])
     refine⟨i+1, [],⟨li,sn g⟩,by omega,?_⟩
     constructor<;>((try refine zO ?_);(try with_reducible exact True.intro))
    ·have e:=qah g
     have e2:=bd g
     (try simp (maxSteps:=2000000) (disch:=omega) only [go_sem,simprocAttr,zD,zE,e,e2])
   ·obtain rfl:i=sent.length:=by omega
    try refine zO ?_
    (refine walk_trim [1,51,52,53] trivial zL ?_;((try refine zW ?_);(try with_reducible exact True.intro)))
    refine qad 200 200 (fun j:Nat=>j≤inn.length∧ ∀(k:Nat) (l:List (Int × Int)),k < j→inn[k]? =some l→RisP 0 l)
     (fun j=>⟨77, [(1, .ptr 0 0 0 0),(51,lMs inn),(52,sci .i64 inn.length),(53,sci .i64 j)], [],1, [(0, .arr 6 0 [[sci .i64 node,sci .i64 state,sci .i64 steps,lI sent,lMs inn,lLs out]])]⟩) (fun j=>inn.length - j) (0) [] ?_ ?_ ?_
    ·simp
    ·constructor<;>(try simp (maxSteps:=2000000) (disch:=omega) only [go_sem,simprocAttr,zD,zE,Int.natCast_zero,List.take_of_length_le,List.append_assoc])
    ·rintro j hj
     obtain⟨hj,hinvj⟩:=hj
     try refine zW ?_
     by_cases lj:j < inn.length
     ·have sn:=qaC lj hinvj
      have bd: ¬RisP 0 inn[j]→tB (qcp ⟨node,state,steps,sent,inn,out⟩)=false:=fun q=>qah fun h=>q (h.2.2.2.2.2.2.2.2.1 j _ lj (List.getElem?_eq_getElem lj))
      (try simp (maxSteps:=2000000) (disch:=omega) only [go_sem,simprocAttr,zD,zE,eMs])
      (refine qac 200 ?_;refine zW ?_;refine callA_of (ql2 inn[j]) zB ?_;((try refine zW ?_);(try with_reducible exact True.intro)))
      by_cases g:RisP 0 inn[j]
      ·have e:=qam g
       (try simp (maxSteps:=2000000) (disch:=omega) only [go_sem,simprocAttr,zD,zE,e])
       refine⟨j+1, [],⟨lj,sn g⟩,by omega,?_⟩
       constructor<;>((try refine zO ?_);(try with_reducible exact True.intro))
      ·have e:=qah g
       have e2:=bd g
       (try simp (maxSteps:=2000000) (disch:=omega) only [go_sem,simprocAttr,zD,zE,e,e2])
     ·obtain rfl:j=inn.length:=by omega
      try refine zO ?_
      (refine walk_trim [7,62,63,64] trivial zL ?_;((try refine zW ?_);(try with_reducible exact True.intro)))
      refine qad 200 200 (fun k:Nat=>k≤out.length∧ ∀(m:Nat) (l:List Int),m < k→out[m]? =some l→l.length≤500∧qe9 l)
       (fun k=>⟨77, [(7,fR1),(62,lLs out),(63,sci .i64 out.length),(64,sci .i64 k)], [],1, [(0, .arr 6 0 [[sci .i64 node,sci .i64 state,sci .i64 steps,lI sent,lMs inn,lLs out]])]⟩) (fun k=>out.length - k) (0) [] ?_ ?_ ?_
      ·simp
      ·constructor<;>(try simp (maxSteps:=2000000) (disch:=omega) only [go_sem,simprocAttr,zD,zE,Int.natCast_zero,List.take_of_length_le,List.append_assoc])
      ·rintro k hk
       obtain⟨hk,hinvk⟩:=hk
       try refine zW ?_
       by_cases lk:k < out.length
       ·have sn:=qaC lk hinvk
        have bd: ¬(out[k].length≤500∧qe9 out[k])→tB (qcp ⟨node,state,steps,sent,inn,out⟩)=false:=fun q=>qah fun h=>q (h.2.2.2.2.2.2.2.2.2 k _ lk (List.getElem?_eq_getElem lk))
        have ho:=b5 out[k] (List.getElem_mem lk)
        (try simp (maxSteps:=2000000) (disch:=omega) only [go_sem,simprocAttr,zD,zE,eLs])
        generalize out[k]=x at *
        by_cases g1:500 < x.length
        ·have e2:=bd fun q=>by have:=q.1;omega
         (try simp (maxSteps:=2000000) (disch:=omega) only [go_sem,simprocAttr,zD,zE,e2])
        try refine zO ?_
        (refine qac 200 ?_;refine zW ?_;refine callA_of (qn5 x ho) zB ?_;((try refine zW ?_);(try with_reducible exact True.intro)))
        by_cases g:qe9 x
        ·have e:=qam g
         (try simp (maxSteps:=2000000) (disch:=omega) only [go_sem,simprocAttr,zD,zE,e])
         refine⟨k+1, [],⟨lk,sn ⟨by omega,g⟩⟩,by omega,?_⟩
         constructor<;>((try refine zO ?_);(try with_reducible exact True.intro))
        ·have e:=qah g
         have e2:=bd fun q=>g q.2
         (try simp (maxSteps:=2000000) (disch:=omega) only [go_sem,simprocAttr,zD,zE,e,e2])
       ·obtain rfl:k=out.length:=by omega
        have e:tB (qcp ⟨node,state,steps,sent,inn,out⟩)=true:=qam ⟨hn,hs,h1.1,h1.2,by simp only;omega,by simp only;omega,by simp only;omega,hinvi,hinvj,hinvk⟩
        (try simp (maxSteps:=2000000) (disch:=omega) only [go_sem,simprocAttr,zD,zE,e])
 ·have e1:tB (0≤steps∧steps≤2147483647)=false:=qah h1
  have e:=bad (fun q=>⟨q.2.2.1,q.2.2.2.1⟩) h1
  (try simp (maxSteps:=2000000) (disch:=omega) only [go_sem,simprocAttr,zD,zE,e1,e])
end Go.Proofs.GY
