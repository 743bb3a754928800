/- Which frames may be: the program's answer. -/
import Derived.Test.YtfhhdgkhajkapaaGreatNTy2
set_option linter.unusedSimpArgs false
set_option linter.unusedVariables false
namespace Go.Proofs.NO
open Go Go.Idl Go.Proofs Go.GP Go.Proofs.Tryz
set_option maxHeartbeats 20000000
set_option maxRecDepth 100000
def qfg (f g:Fm):Bool:=f.kind==g.kind && f.epoch==g.epoch && (f.m.1==g.m.1 && f.m.2==g.m.2) && qbE f.ps g.ps && f.init==g.init && f.num==g.num && f.count==g.count && f.path==g.path
theorem qjI {f g:Fm}:qfg f g=true↔f=g:=by
 obtain⟨f1,f2,⟨f3,f4⟩,f5,f6,f7,f8,f9⟩:=f
 obtain⟨g1,g2,⟨g3,g4⟩,g5,g6,g7,g8,g9⟩:=g
 simp only [qfg,Bool.and_eq_true,beq_iff_eq,qbs,Fm.mk.injEq,Prod.mk.injEq]
 constructor
 ·rintro⟨⟨⟨⟨⟨⟨⟨a,b⟩,c⟩,d⟩,e⟩,f⟩,g⟩,h⟩;exact⟨a,b,c,d,e,f,g,h⟩
 ·rintro⟨a,b,c,d,e,f,g,h⟩;exact⟨⟨⟨⟨⟨⟨⟨a,b⟩,c⟩,d⟩,e⟩,f⟩,g⟩,h⟩
theorem qhK (f g:Fm):Pure prog 232 [lFm f,lFm g] (scb (qfg f g)):=by
 generalize hres:qfg f g=res
 unfold qfg at hres
 obtain⟨f1,f2,⟨f3,f4⟩,f5,f6,f7,f8,f9⟩:=f
 obtain⟨g1,g2,⟨g3,g4⟩,g5,g6,g7,g8,g9⟩:=g
 simp only at hres
 refine pcall0 200 (fn:=f232) func232 rfl (by simp [ntmps232]) zB zB fun hs=>?_
 try refine zW ?_
 by_cases c1:f1=g1
 rotate_left
 ·have e:(f1==g1)=false:=beq_eq_false_iff_ne.2 c1
  simp only [e,Bool.false_and] at hres
  subst hres
  (try simp (maxSteps:=2000000) (disch:=omega) only [go_sem,simprocAttr,zD,zE,e])
 by_cases c2:f2=g2
 rotate_left
 ·have e:(f2==g2)=false:=beq_eq_false_iff_ne.2 c2
  simp only [e,Bool.and_false,Bool.false_and] at hres
  subst hres
  (try simp (maxSteps:=2000000) (disch:=omega) only [go_sem,simprocAttr,zD,zE,c1,e])
 have d1:(f1==g1)=true:=beq_iff_eq.2 c1
 have d2:(f2==g2)=true:=beq_iff_eq.2 c2
 simp only [d1,d2,Bool.true_and] at hres
 (try simp (maxSteps:=2000000) (disch:=omega) only [go_sem,simprocAttr,zD,zE,d1,d2])
 cases c3:(f3==g3 && f4==g4)
 ·simp only [c3,Bool.false_and] at hres
  subst hres
  (try simp (maxSteps:=2000000) (disch:=omega) only [go_sem,simprocAttr,zD,zE,c3])
 simp only [c3,Bool.true_and] at hres
 (try simp (maxSteps:=2000000) (disch:=omega) only [go_sem,simprocAttr,zD,zE,c3])
 (refine zG ?_;refine callA_of (qo5 f5 g5) zB ?_;try refine zW ?_)
 cases c5:qbE f5 g5
 ·simp only [c5,Bool.false_and] at hres
  subst hres
  ((try refine zO ?_);(try with_reducible exact True.intro))
 simp only [c5,Bool.true_and] at hres
 try refine zO ?_
 by_cases c6:f6=g6
 rotate_left
 ·have e:(f6==g6)=false:=beq_eq_false_iff_ne.2 c6
  simp only [e,Bool.false_and] at hres
  subst hres
  (try simp (maxSteps:=2000000) (disch:=omega) only [go_sem,simprocAttr,zD,zE,e])
 by_cases c7:f7=g7
 rotate_left
 ·have e:(f7==g7)=false:=beq_eq_false_iff_ne.2 c7
  simp only [e,Bool.and_false,Bool.false_and] at hres
  subst hres
  (try simp (maxSteps:=2000000) (disch:=omega) only [go_sem,simprocAttr,zD,zE,c6,e])
 by_cases c8:f8=g8
 rotate_left
 ·have e:(f8==g8)=false:=beq_eq_false_iff_ne.2 c8
  simp only [e,Bool.and_false,Bool.false_and] at hres
  subst hres
  (try simp (maxSteps:=2000000) (disch:=omega) only [go_sem,simprocAttr,zD,zE,c6,c7,e])
 have d6:(f6==g6)=true:=beq_iff_eq.2 c6
 have d7:(f7==g7)=true:=beq_iff_eq.2 c7
 have d8:(f8==g8)=true:=beq_iff_eq.2 c8
 simp only [d6,d7,d8,Bool.true_and] at hres
 (try simp (maxSteps:=2000000) (disch:=omega) only [go_sem,simprocAttr,zD,zE,d6,d7,d8])
 (refine zG ?_;refine callA_of (qgP f9 g9) zB ?_;try refine zW ?_)
 subst hres
 ((try refine zO ?_);(try with_reducible exact True.intro))
def onlyF (f:Fm):Fm:=
 if f.kind=0 then⟨0,f.epoch,f.m, [],0,0,0, []⟩ else if f.kind=5 then⟨5,f.epoch,(0,0),f.ps,0,0,0, []⟩ else if f.kind=6 then⟨6,0,(0,0), [],f.init,f.num,f.count,f.path⟩
 else⟨f.kind,f.epoch,(0,0), [],0,0,0, []⟩
theorem qjy (f:Fm):Pure prog 233 [lFm f] (lFm (onlyF f)):=by
 unfold onlyF
 obtain⟨f1,f2,⟨f3,f4⟩,f5,f6,f7,f8,f9⟩:=f
 by_cases c0:f1=0
 ·subst c0
  refine pcall0 200 (fn:=f233) func233 rfl (by simp [ntmps233]) zB zB fun hs=>?_
  ((try refine zO ?_);(try with_reducible exact True.intro))
 by_cases c5:f1=5
 ·subst c5
  refine pcall0 200 (fn:=f233) func233 rfl (by simp [ntmps233]) zB zB fun hs=>?_
  ((try refine zO ?_);(try with_reducible exact True.intro))
 by_cases c6:f1=6
 ·subst c6
  refine pcall0 200 (fn:=f233) func233 rfl (by simp [ntmps233]) zB zB fun hs=>?_
  ((try refine zO ?_);(try with_reducible exact True.intro))
 simp only [if_neg c0,if_neg c5,if_neg c6]
 refine pcall0 200 (fn:=f233) func233 rfl (by simp [ntmps233]) zB zB fun hs=>?_
 (try simp (maxSteps:=2000000) (disch:=omega) only [go_sem,simprocAttr,zD,zE,c0,c5,c6])
theorem qqt {f:Fm} (h:FrP f):f=onlyF f:=by
 obtain⟨f1,f2,⟨f3,f4⟩,f5,f6,f7,f8,f9⟩:=f
 unfold FrP at h
 rcases h with ⟨k,h⟩ | ⟨k,⟨b1,b2,b3,b4⟩, -,h1, -⟩ | ⟨k,⟨⟨b1,b2,b3,b4⟩, -,h0⟩,h1⟩ | ⟨k,⟨⟨b1,b2,b3,b4⟩, -,h0⟩, -⟩
 ·obtain⟨h1,h2,h3, -⟩:=h
  simp only at k h1 h2 h3
  subst k h1 h3
  rw [h2]
  rfl
 ·simp only at k b1 b2 b3 b4 h1
  subst k b1 b2 b3 b4 h1
  rfl
 ·simp only at k b1 b2 b3 b4 h0 h1
  subst b1 b2 b3 b4 h1
  rw [h0]
  unfold onlyF
  simp only
  rw [if_neg (by omega),if_neg (by omega),if_neg (by omega)]
 ·simp only at k b1 b2 b3 b4 h0
  subst k b1 b2 b3 b4
  rw [h0]
  rfl
abbrev fCtl:IV:= .p (.sc (.func (.func 234) #[] #[]))
theorem qk7 (f:Fm):Pure prog 234 [lFm f] (scb (decide (1≤f.epoch) && decide (f.epoch≤200))):=by
 refine pcall0 200 (fn:=f234) func234 rfl (by simp [ntmps234]) zB zB fun hs=>?_
 try refine zW ?_
 (refine zG ?_;refine callA_of (qaJ f.epoch 1 200) zB ?_;((try refine zW ?_);(try with_reducible exact True.intro)))
theorem qqo (f:Fm):Pure prog 235 [lFm f] (scb ((decide (0≤f.epoch) && decide (f.epoch≤200)) && (decide (1≤f.m.1) && decide (f.m.1≤500)) && (decide (0≤f.m.2) && decide (f.m.2≤3)))):=by
 refine pcall0 200 (fn:=f235) func235 rfl (by simp [ntmps235]) zB zB fun hs=>?_
 try refine zW ?_
 (refine zG ?_;refine callA_of (qaJ f.epoch 0 200) zB ?_;try refine zW ?_)
 cases c1:(decide (0≤f.epoch) && decide (f.epoch≤200))
 ·(try simp (maxSteps:=2000000) (disch:=omega) only [go_sem,simprocAttr,zD,zE,Bool.false_and])
 try refine zO ?_
 (refine zG ?_;refine callA_of (qaJ f.m.1 1 500) zB ?_;try refine zW ?_)
 cases c2:(decide (1≤f.m.1) && decide (f.m.1≤500))
 ·(try simp (maxSteps:=2000000) (disch:=omega) only [go_sem,simprocAttr,zD,zE,Bool.false_and,Bool.and_false])
 try refine zO ?_
 (refine zG ?_;refine callA_of (qaJ f.m.2 0 3) zB ?_)
 (try simp (maxSteps:=2000000) (disch:=omega) only [go_sem,simprocAttr,zD,zE,Bool.true_and])
abbrev qot:IV:= .p (.sc (.func (.func 237) #[] #[]))
theorem qpq (p:Pc) (hg:gPc p):Pure prog 237 [lPc p] (scb (!tB (qaA p))):=by
 refine pcall0 200 (fn:=f237) func237 rfl (by simp [ntmps237]) zB zB fun hs=>?_
 try refine zW ?_
 (refine zG ?_;refine callA_of (qnf p hg) zB ?_;((try refine zW ?_);(try with_reducible exact True.intro)))
theorem qpC (l:List Pc) (hg: ∀p∈l,gPc p):Pure prog 291 [lPs l,qot] (sci .i64 (qa9 (fun p=>!tB (qaA p)) 0 l)):=by
 refine pcall0 200 (fn:=f291) func291 rfl (by simp [ntmps291]) zB zB fun hs=>?_
 simp only [go_sem,simprocAttr,maxLen] at hs
 try refine zW ?_
 refine qac 200 200 (fun i:Nat=>i≤l.length∧qa9 (fun p=>!tB (qaA p)) i (l.drop i)=qa9 (fun p=>!tB (qaA p)) 0 l)
  (fun i=>⟨19, [(0,lPs l),(1,qot),(7,sci .i64 l.length),(8,sci .i64 i)], [],0, []⟩) (fun i=>l.length - i) (0) [] ?_ ?_ ?_
 ·simp
 ·constructor<;>(try simp (disch:=omega) only [go_sem,simprocAttr,zD,zE,Int.natCast_zero,List.take_of_length_le,List.append_assoc])
 ·rintro i hi
  obtain⟨hi,hinvi⟩:=hi
  try refine zW ?_
  by_cases li:i < l.length
  ·rw [qba li,qa9] at hinvi
   (try simp (disch:=omega) only [go_sem,simprocAttr,zD,zE,ePc])
   (refine zG ?_;refine callA_of (qpq l[i] (hg _ (List.getElem_mem li))) zB ?_;try refine zW ?_)
   cases e:tB (qaA l[i])
   ·simp only [e,Bool.not_false,if_true] at hinvi
    (try simp (disch:=omega) only [go_sem,simprocAttr,zD,zE,←hinvi])
   ·simp only [e,Bool.not_true,Bool.false_eq_true,if_false] at hinvi
    try refine zO ?_
    refine⟨i+1, [],⟨by first | assumption | omega,hinvi⟩,?_,?_⟩
    ·(try simp only []);omega
    ·constructor<;>(try simp (disch:=omega) only [go_sem,simprocAttr,zD,zE,List.append_assoc])
  ·obtain rfl:i=l.length:=by omega
   rw [List.drop_length] at hinvi
   (try simp (disch:=omega) only [go_sem,simprocAttr,zD,zE,←hinvi,qa9])
theorem qpx (l:List Pc) (hg: ∀p∈l,gPc p):Pure prog 238 [lPs l,qot] (scb (!tB (∀p∈l,qaA p))):=by
 have e:decide (0≤qa9 (fun p=>!tB (qaA p)) 0 l)= !tB (∀p∈l,qaA p):=by
  rw [ql0,←qf5]
  refine qcj ?_
  rw [qdz]
  constructor
  ·rintro⟨x,hx,h⟩ q
   rw [qal (q x hx)] at h;cases h
  ·intro h
   refine Classical.byContradiction fun q=>h fun x hx=>?_
   refine Classical.byContradiction fun q2=>q ⟨x,hx,?_⟩
   rw [qaf q2];rfl
 refine pcall0 200 (fn:=f238) func238 rfl (by simp [ntmps238]) zB zB fun hs=>?_
 try refine zW ?_
 (refine zG ?_;refine callA_of (qpC l hg) zB ?_)
 (try simp (disch:=omega) only [go_sem,simprocAttr,zD,zE,e])
theorem qqp (f:Fm) (hg: ∀p∈f.ps,gPc p):PG prog 236 [lFm f, .ptr 0 0 0 0] [.arr 1 0 [[fCtl]]] 0
  (scb ((decide (1≤f.epoch) && decide (f.epoch≤200)) && (decide (1≤(f.ps.length:Int)) && decide ((f.ps.length:Int)≤6)) && tB (∀p∈f.ps,qaA p))) [(0, .arr 1 0 [[fCtl]])]:=by
 refine pg_of 200 (fn:=f236) func236 rfl (by simp [ntmps236]) 1 rfl zC zC zC zC zC fun hs=>?_
 try refine zW ?_
 (refine zG ?_;refine callA_of (qk7 f) zB ?_;try refine zW ?_)
 cases c1:(decide (1≤f.epoch) && decide (f.epoch≤200))
 ·(try simp (maxSteps:=2000000) (disch:=omega) only [go_sem,simprocAttr,zD,zE,Bool.false_and])
 try refine zO ?_
 (refine zG ?_;refine callA_of (qaJ f.ps.length 1 6) zB ?_;try refine zW ?_)
 cases c2:(decide (1≤(f.ps.length:Int)) && decide ((f.ps.length:Int)≤6))
 ·(try simp (maxSteps:=2000000) (disch:=omega) only [go_sem,simprocAttr,zD,zE,Bool.false_and,Bool.and_false])
 try refine zO ?_
 (refine zG ?_;refine callA_of (qpx f.ps hg) zB ?_)
 (try simp (maxSteps:=2000000) (disch:=omega) only [go_sem,simprocAttr,zD,zE,Bool.true_and,Bool.not_not])
abbrev qos:IV:= .p (.sc (.func (.func 292) #[] #[]))
theorem qlc (n:Int):Pure prog 292 [sci .i64 n] (scb (!tB (0≤n∧n≤5))):=by
 refine pcall0 200 (fn:=f292) func292 rfl (by simp [ntmps292]) zB zB fun hs=>?_
 try refine zW ?_
 (refine zG ?_;refine callA_of (qaJ n 0 5) zB ?_;try refine zW ?_)
 by_cases h:0≤n∧n≤5
 ·rw [qal h]
  (try simp (disch:=omega) only [go_sem,simprocAttr,zD,zE,h.1,h.2])
 ·rw [qaf h]
  by_cases h1:0≤n
  ·have h2: ¬n≤5:=fun q=>h ⟨h1,q⟩
   (try simp (disch:=omega) only [go_sem,simprocAttr,zD,zE,h1,h2])
  ·(try simp (disch:=omega) only [go_sem,simprocAttr,zD,zE,h1])
theorem qpB (l:List Int):Pure prog 218 [lI l,qos] (sci .i64 (qa9 (fun x=>!tB (0≤x∧x≤5)) 0 l)):=by
 refine pcall0 200 (fn:=f218) func218 rfl (by simp [ntmps218]) zB zB fun hs=>?_
 simp only [go_sem,simprocAttr,maxLen] at hs
 try refine zW ?_
 refine qac 200 200 (fun i:Nat=>i≤l.length∧qa9 (fun x=>!tB (0≤x∧x≤5)) i (l.drop i)=qa9 (fun x=>!tB (0≤x∧x≤5)) 0 l)
  (fun i=>⟨19, [(0,lI l),(1,qos),(7,sci .i64 l.length),(8,sci .i64 i)], [],0, []⟩) (fun i=>l.length - i) (0) [] ?_ ?_ ?_
 ·simp
 ·constructor<;>(try simp (disch:=omega) only [go_sem,simprocAttr,zD,zE,Int.natCast_zero,List.take_of_length_le,List.append_assoc])
 ·rintro i hi
  obtain⟨hi,hinvi⟩:=hi
  try refine zW ?_
  by_cases li:i < l.length
  ·rw [qba li,qa9] at hinvi
   (try simp (disch:=omega) only [go_sem,simprocAttr,zD,zE,eI])
   (refine zG ?_;refine callA_of (qlc l[i]) zB ?_;try refine zW ?_)
   cases e:tB (0≤l[i]∧l[i]≤5)
   ·simp only [e,Bool.not_false,if_true] at hinvi
    (try simp (disch:=omega) only [go_sem,simprocAttr,zD,zE,←hinvi])
   ·simp only [e,Bool.not_true,Bool.false_eq_true,if_false] at hinvi
    try refine zO ?_
    refine⟨i+1, [],⟨by first | assumption | omega,hinvi⟩,?_,?_⟩
    ·(try simp only []);omega
    ·constructor<;>(try simp (disch:=omega) only [go_sem,simprocAttr,zD,zE,List.append_assoc])
  ·obtain rfl:i=l.length:=by omega
   rw [List.drop_length] at hinvi
   (try simp (disch:=omega) only [go_sem,simprocAttr,zD,zE,←hinvi,qa9])
theorem qpw (l:List Int):Pure prog 148 [lI l,qos] (scb (!tB (∀x∈l,0≤x∧x≤5))):=by
 have e:decide (0≤qa9 (fun x=>!tB (0≤x∧x≤5)) 0 l)= !tB (∀x∈l,0≤x∧x≤5):=by
  rw [ql0,←qf5]
  refine qcj ?_
  rw [qdz]
  constructor
  ·rintro⟨x,hx,h⟩ q
   rw [qal (q x hx)] at h;cases h
  ·intro h
   refine Classical.byContradiction fun q=>h fun x hx=>?_
   refine Classical.byContradiction fun q2=>q ⟨x,hx,?_⟩
   rw [qaf q2];rfl
 refine pcall0 200 (fn:=f148) func148 rfl (by simp [ntmps148]) zB zB fun hs=>?_
 try refine zW ?_
 (refine zG ?_;refine callA_of (qpB l) zB ?_)
 (try simp (disch:=omega) only [go_sem,simprocAttr,zD,zE,e])
theorem qm7 (f:Fm):Pure prog 239 [lFm f]
  (scb (tB (0≤f.init∧f.init≤5) && (decide (1≤f.num) && decide (f.num≤200)) && (decide (0≤f.count) && decide (f.count≤500)) && (decide (1≤(f.path.length:Int)) && decide ((f.path.length:Int)≤6)) && tB (∀x∈f.path,0≤x∧x≤5))):=by
 refine pcall0 200 (fn:=f239) func239 rfl (by simp [ntmps239]) zB zB fun hs=>?_
 try refine zW ?_
 (refine zG ?_;refine callA_of (qlc f.init) zB ?_;try refine zW ?_)
 cases c0:tB (0≤f.init∧f.init≤5)
 ·(try simp (maxSteps:=2000000) (disch:=omega) only [go_sem,simprocAttr,zD,zE,Bool.false_and])
 try refine zO ?_
 (refine zG ?_;refine callA_of (qaJ f.num 1 200) zB ?_;try refine zW ?_)
 cases c1:(decide (1≤f.num) && decide (f.num≤200))
 ·(try simp (maxSteps:=2000000) (disch:=omega) only [go_sem,simprocAttr,zD,zE,Bool.false_and,Bool.and_false])
 try refine zO ?_
 (refine zG ?_;refine callA_of (qaJ f.count 0 500) zB ?_;try refine zW ?_)
 cases c2:(decide (0≤f.count) && decide (f.count≤500))
 ·(try simp (maxSteps:=2000000) (disch:=omega) only [go_sem,simprocAttr,zD,zE,Bool.false_and,Bool.and_false])
 try refine zO ?_
 (refine zG ?_;refine callA_of (qaJ f.path.length 1 6) zB ?_;try refine zW ?_)
 cases c3:(decide (1≤(f.path.length:Int)) && decide ((f.path.length:Int)≤6))
 ·(try simp (maxSteps:=2000000) (disch:=omega) only [go_sem,simprocAttr,zD,zE,Bool.false_and,Bool.and_false])
 try refine zO ?_
 (refine zG ?_;refine callA_of (qpw f.path) zB ?_)
 (try simp (maxSteps:=2000000) (disch:=omega) only [go_sem,simprocAttr,zD,zE,Bool.true_and,Bool.not_not])
theorem and2 (a b:Prop) [Decidable a] [Decidable b]:(decide a && decide b)=tB (a∧b):=by
 rw [←Bool.decide_and,qf5]
theorem qdt {a b:Prop}:(tB a && tB b)=tB (a∧b):=by
 by_cases h:a
 ·by_cases k:b
  ·rw [qal h,qal k,qal ⟨h,k⟩];rfl
  ·rw [qaf k,qaf (P:=a∧b) (fun q=>k q.2),Bool.and_false]
 ·rw [qaf h,qaf (P:=a∧b) (fun q=>h q.1),Bool.false_and]
theorem qm5 (f:Fm) (hg: ∀p∈f.ps,gPc p):Pure prog 184 [lFm f] (scb (tB (FrP f))):=by
 by_cases k0:0≤f.kind∧f.kind≤6
 rotate_left
 ·have e:tB (FrP f)=false:=qaf fun q=>k0 (by rcases q with q | q | q | q<;>omega)
  refine pcall0 200 (fn:=f184) func184 rfl (by simp [ntmps184]) zB zB fun hs=>?_
  try refine zW ?_
  (refine zM [1] ?_;refine zI [none,none,some [],none,none,none,none,some [5],some [],none,none] ?_)
  try refine zO ?_
  (refine zF ?_;refine callA_of (qaJ f.kind 0 6) zB ?_;try refine zW ?_)
  have e2:(decide (0≤f.kind) && decide (f.kind≤6))=false:=by rw [and2,qaf k0]
  (try simp (maxSteps:=2000000) (disch:=omega) only [go_sem,simprocAttr,zD,zE,e,e2])
 have e2:(decide (0≤f.kind) && decide (f.kind≤6))=true:=by rw [and2,qal k0]
 by_cases k1:f=onlyF f
 rotate_left
 ·have e:tB (FrP f)=false:=qaf fun q=>k1 (qqt q)
  have e3:qfg f (onlyF f)=false:=by rw [←Bool.not_eq_true,qjI];exact k1
  refine pcall0 200 (fn:=f184) func184 rfl (by simp [ntmps184]) zB zB fun hs=>?_
  try refine zW ?_
  (refine zM [1] ?_;refine zI [none,none,some [],none,none,none,none,some [5],some [],none,none] ?_)
  try refine zO ?_
  (refine zF ?_;refine callA_of (qaJ f.kind 0 6) zB ?_)
  (try simp (maxSteps:=2000000) (disch:=omega) only [go_sem,simprocAttr,zD,zE,e2])
  (refine zF ?_;refine callA_of (qjy f) zB ?_)
  try refine zO ?_
  (refine zF ?_;refine callA_of (qhK f (onlyF f)) zB ?_)
  (try simp (maxSteps:=2000000) (disch:=omega) only [go_sem,simprocAttr,zD,zE,e3,e])
 have e3:qfg f (onlyF f)=true:=qjI.2 k1
 have hon:=qjy f
 have hsm:=qhK f (onlyF f)
 have r1:=qk7 f
 have r2:=qqo f
 have r3:=qqp f hg
 have r6:=qm7 f
 have hq:=k1
 generalize onlyF f=fo at hon hsm e3
 obtain⟨f1,f2,⟨f3,f4⟩,f5,f6,f7,f8,f9⟩:=f
 clear k1
 simp only at k0 e2 r1 r2 r3 r6 hg hon hsm
 unfold onlyF at hq
 simp only at hq
 obtain rfl | h14 | rfl | rfl:f1=0∨(1≤f1∧f1≤4)∨f1=5∨f1=6:=by omega
 ·obtain⟨rfl,rfl,rfl,rfl,rfl⟩:f5= []∧f6=0∧f7=0∧f8=0∧f9= []:=by simpa using hq
  have e:tB (FrP ⟨0,f2,(f3,f4), [],0,0,0, []⟩)=((decide (0≤f2) && decide (f2≤200)) && (decide (1≤f3) && decide (f3≤500)) && (decide (0≤f4) && decide (f4≤3))):=by
   rw [and2,and2,and2,qdt,qdt]
   exact qcj (by simp [FrP,qdg,CtlF,qbp,and_assoc])
  rw [e]
  generalize ((decide (0≤f2) && decide (f2≤200)) && (decide (1≤f3) && decide (f3≤500)) && (decide (0≤f4) && decide (f4≤3)))=res at r2 ⊢
  refine pcall0 200 (fn:=f184) func184 rfl (by simp [ntmps184]) zB zB fun hs=>?_
  try refine zW ?_
  (refine zM [1] ?_;refine zI [none,none,some [],none,none,none,none,some [5],some [],none,none] ?_)
  try refine zO ?_
  (refine zF ?_;refine callA_of (qaJ 0 0 6) zB ?_)
  try refine zO ?_
  (refine zF ?_;refine callA_of (hon) zB ?_)
  try refine zO ?_
  (refine zF ?_;refine callA_of (hsm) zB ?_)
  (try simp (maxSteps:=2000000) (disch:=omega) only [go_sem,simprocAttr,zD,zE,e3])
  (refine zM [1,4] ?_;refine zI [none,none,none,none,none,some [],none] ?_)
  try refine zO ?_
  (refine zF ?_;refine callA_of (r2) zB ?_)
  ((try refine zO ?_);(try with_reducible exact True.intro))
 ·obtain⟨rfl,rfl,rfl,rfl,rfl,rfl,rfl⟩:f3=0∧f4=0∧f5= []∧f6=0∧f7=0∧f8=0∧f9= []:=by
   rw [if_neg (by omega),if_neg (by omega),if_neg (by omega)] at hq
   simpa [and_assoc] using hq
  have e:tB (FrP ⟨f1,f2,(0,0), [],0,0,0, []⟩)=(decide (1≤f2) && decide (f2≤200)):=by
   rw [and2]
   refine qcj ⟨fun h=>?_,fun h=> .inr (.inr (.inl ⟨h14,⟨⟨rfl,rfl,rfl,rfl⟩,h,rfl⟩,rfl⟩))⟩
   rcases h with ⟨k, -⟩ | ⟨k, -⟩ | ⟨-,⟨-,k, -⟩, -⟩ | ⟨k, -⟩
   ·simp only at k;omega
   ·simp only at k;omega
   ·exact k
   ·simp only at k;omega
  rw [e]
  generalize (decide (1≤f2) && decide (f2≤200))=res at r1 ⊢
  obtain rfl | rfl | rfl | rfl:f1=1∨f1=2∨f1=3∨f1=4:=by omega
  all_goals
   refine pcall0 200 (fn:=f184) func184 rfl (by simp [ntmps184]) zB zB fun hs=>?_
   try refine zW ?_
   (refine zM [1] ?_;refine zI [none,none,some [],none,none,none,none,some [5],some [],none,none] ?_)
   try refine zO ?_
   (refine zF ?_;refine callA_of (qaJ _ 0 6) zB ?_)
   try refine zO ?_
   (refine zF ?_;refine callA_of (hon) zB ?_)
   try refine zO ?_
   (refine zF ?_;refine callA_of (hsm) zB ?_)
   (try simp (maxSteps:=2000000) (disch:=omega) only [go_sem,simprocAttr,zD,zE,e3])
   (refine zM [1,4] ?_;refine zI [none,none,none,none,none,some [],none] ?_)
   try refine zO ?_
   (refine zF ?_;refine callA_of (r1) zB ?_)
   ((try refine zO ?_);(try with_reducible exact True.intro))
 ·obtain⟨rfl,rfl,rfl,rfl,rfl,rfl⟩:f3=0∧f4=0∧f6=0∧f7=0∧f8=0∧f9= []:=by simpa [and_assoc] using hq
  have e:tB (FrP ⟨5,f2,(0,0),f5,0,0,0, []⟩)=((decide (1≤f2) && decide (f2≤200)) && (decide (1≤(f5.length:Int)) && decide ((f5.length:Int)≤6)) && tB (∀p∈f5,qaA p)):=by
   rw [and2,and2,qdt,qdt]
   refine qcj ⟨fun h=>?_,fun h=> .inr (.inr (.inr ⟨rfl,⟨⟨rfl,rfl,rfl,rfl⟩,h.1.1,rfl⟩,⟨by simp only;omega,by simp only;omega⟩,h.2⟩))⟩
   rcases h with ⟨k, -⟩ | ⟨k, -⟩ | ⟨k, -⟩ | ⟨-,⟨-,k, -⟩,k2,k3⟩
   ·simp only at k;omega
   ·simp only at k;omega
   ·simp only at k;omega
   ·simp only at k k2 k3
    exact⟨⟨k,by omega,by omega⟩,k3⟩
  rw [e]
  generalize ((decide (1≤f2) && decide (f2≤200)) && (decide (1≤(f5.length:Int)) && decide ((f5.length:Int)≤6)) && tB (∀p∈f5,qaA p))=res at r3 ⊢
  refine pcall0 200 (fn:=f184) func184 rfl (by simp [ntmps184]) zB zB fun hs=>?_
  try refine zW ?_
  (refine zM [1] ?_;refine zI [none,none,some [],none,none,none,none,some [5],some [],none,none] ?_)
  try refine zO ?_
  (refine zF ?_;refine callA_of (qaJ 5 0 6) zB ?_)
  try refine zO ?_
  (refine zF ?_;refine callA_of (hon) zB ?_)
  try refine zO ?_
  (refine zF ?_;refine callA_of (hsm) zB ?_)
  (try simp (maxSteps:=2000000) (disch:=omega) only [go_sem,simprocAttr,zD,zE,e3])
  (refine zM [1,4] ?_;refine zI [none,none,none,none,none,some [],none] ?_)
  try refine zO ?_
  (refine qaM ?_;refine zW ?_;refine callG_of [1] (r3) zU ?_)
  ((try refine zO ?_);(try with_reducible exact True.intro))
 ·obtain⟨rfl,rfl,rfl,rfl⟩:f2=0∧f3=0∧f4=0∧f5= []:=by simpa [and_assoc] using hq
  have e:tB (FrP ⟨6,0,(0,0), [],f6,f7,f8,f9⟩)=(tB (0≤f6∧f6≤5) && (decide (1≤f7) && decide (f7≤200)) && (decide (0≤f8) && decide (f8≤500)) && (decide (1≤(f9.length:Int)) && decide ((f9.length:Int)≤6)) && tB (∀x∈f9,0≤x∧x≤5)):=by
   rw [and2,and2,and2,qdt,qdt,qdt,qdt]
   refine qcj ⟨fun h=>?_,fun h=> .inl ⟨rfl,rfl,rfl,rfl,h.1.1.1.1,h.1.1.1.2,h.1.1.2,⟨by simp only;omega,by simp only;omega⟩,h.2⟩⟩
   rcases h with ⟨-, -, -, -,k1,k2,k3,k4,k5⟩ | ⟨k, -⟩ | ⟨k, -⟩ | ⟨k, -⟩
   ·simp only at k1 k2 k3 k4 k5
    exact⟨⟨⟨⟨k1,k2⟩,k3⟩,by omega,by omega⟩,k5⟩
   ·simp only at k;omega
   ·simp only at k;omega
   ·simp only at k;omega
  rw [e]
  generalize (tB (0≤f6∧f6≤5) && (decide (1≤f7) && decide (f7≤200)) && (decide (0≤f8) && decide (f8≤500)) && (decide (1≤(f9.length:Int)) && decide ((f9.length:Int)≤6)) && tB (∀x∈f9,0≤x∧x≤5))=res at r6 ⊢
  refine pcall0 200 (fn:=f184) func184 rfl (by simp [ntmps184]) zB zB fun hs=>?_
  try refine zW ?_
  (refine zM [1] ?_;refine zI [none,none,some [],none,none,none,none,some [5],some [],none,none] ?_)
  try refine zO ?_
  (refine zF ?_;refine callA_of (qaJ 6 0 6) zB ?_)
  try refine zO ?_
  (refine zF ?_;refine callA_of (hon) zB ?_)
  try refine zO ?_
  (refine zF ?_;refine callA_of (hsm) zB ?_)
  (try simp (maxSteps:=2000000) (disch:=omega) only [go_sem,simprocAttr,zD,zE,e3])
  (refine zM [1,4] ?_;refine zI [none,none,none,none,none,some [],none] ?_)
  try refine zO ?_
  (refine zF ?_;refine callA_of (r6) zB ?_)
  ((try refine zO ?_);(try with_reducible exact True.intro))
end Go.Proofs.NO
