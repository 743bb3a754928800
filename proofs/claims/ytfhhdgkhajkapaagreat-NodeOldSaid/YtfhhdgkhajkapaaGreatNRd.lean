/- Facts that the proofs of this claim lean on. -/
import Derived.Test.YtfhhdgkhajkapaaGreatNWr
import Derived.Test.YtfhhdgkhajkapaaGreatNNi
import Derived.Test.YtfhhdgkhajkapaaGreatNxDd
import Derived.Test.YtfhhdgkhajkapaaGreatNzP4
import Derived.Test.YtfhhdgkhajkapaaGreatIdRn
import Derived.Test.YtfhhdgkhajkapaaGreatNPJ
import Derived.Test.YtfhhdgkhajkapaaGreatNNg
import Derived.Test.YtfhhdgkhajkapaaGreatNtA
import Derived.Test.YtfhhdgkhajkapaaGreatNNp
import Derived.Test.YtfhhdgkhajkapaaGreatNzCl
set_option linter.unusedSimpArgs false
set_option linter.unusedVariables false
/- The law NodeOld's closed facts, one by one. -/
namespace Go.Proofs.YtfhhdgkhajkapaaGreat
open Go Go.Idl Go.Proofs Go.Proofs.Tryz
set_option maxRecDepth 100000
open Go.ChangeShapes Go.WideShapes Go.ChangeAt Go.RowKit
theorem qam {a b:Bool} (ha:a=true) (hb:b=true):(a && b)=true:=by rw [ha,hb];rfl
theorem qn8:Rows.nodeOldRow.wf (OpenSpec.ofChange Rows.nodeOldSpec)=true:=by kernel_rfl
theorem qn9:laidOutB Tryz.checked.prog=true:=by kernel_rfl
theorem qoa:mapsRowed Tryz.checked.prog=true:=by kernel_rfl
theorem qob:Tryz.f6.params.all (Tryz.checked.prog.readableRec ·)=true:=by kernel_rfl
theorem qoc:namedTie Tryz.checked.prog Rows.nodeOldRow.named Rows.nodeOldSpec.vars=true:=by kernel_rfl
theorem qod:(Rows.nodeOldRow.stops== [])=true:=by kernel_rfl
theorem qoe:(Tryz.checked.prog.stops== [])=true:=by kernel_rfl
theorem qof:(Rows.nodeOldRow.knobs== [])=true:=by kernel_rfl
theorem qog:(Tryz.checked.prog.stopKnobs== [])=true:=by kernel_rfl
theorem qoh:(Rows.nodeOldRow.inPlace==Tryz.checked.prog.inPlace 6)=true:=by kernel_rfl
theorem qmh:(Rows.nodeOldRow.unfollowed==Tryz.checked.prog.unfollowed 6)=true:=by kernel_rfl
theorem qmi:(Rows.nodeOldRow.recurses==Tryz.checked.prog.recurses 6)=true:=by kernel_rfl
theorem qmj:(Rows.nodeOldRow.named==Tryz.checked.prog.varsNamed 6)=true:=by kernel_rfl
theorem qmk:(Rows.nodeOldRow.maps==(Tryz.f6.params.toList++Rows.nodeOldSpec.plain.varTypes Tryz.checked.prog).any (Tryz.checked.prog.mapsRec ·))=true:=by kernel_rfl
theorem qml:(Rows.nodeOldRow.ifaces==(Tryz.f6.params.toList++Rows.nodeOldSpec.plain.varTypes Tryz.checked.prog).any (Tryz.checked.prog.ifacesRec ·))=true:=by kernel_rfl
theorem qmm:(Rows.nodeOldRow.mapsOut==Tryz.checked.prog.mapsAmong Tryz.f6.resultTypes.toList)=true:=by kernel_rfl
theorem qmn:(Rows.nodeOldRow.loops==(Tryz.f6.params.toList++Rows.nodeOldSpec.plain.varTypes Tryz.checked.prog).any (Tryz.checked.prog.loopsFrom ·))=true:=by kernel_rfl
theorem qmo:(Rows.nodeOldRow.wideKeys==(Tryz.f6.params.toList++Rows.nodeOldSpec.plain.varTypes Tryz.checked.prog++Tryz.f6.resultTypes.toList).any (Tryz.checked.prog.wideKeysFrom ·))=true:=by kernel_rfl
theorem qmp:Rows.nodeOldSpec.vars.all (Tryz.checked.prog.varReadable ·)=true:=by kernel_rfl
theorem qmq:Tryz.f6.resultTypes.all (fun t=>Tryz.checked.prog.readableRec t && decide (t < Tryz.checked.prog.types.size))=true:=by kernel_rfl
theorem qmr:(Rows.nodeOldRow.ifacesOut==Tryz.f6.resultTypes.toList.any (Tryz.checked.prog.ifacesRec ·))=true:=by kernel_rfl
theorem qms:(Rows.nodeOldRow.loopsOut==Tryz.f6.resultTypes.toList.any (Tryz.checked.prog.loopsFrom ·))=true:=by kernel_rfl
theorem qmt:(Rows.nodeOldRow.plainKeys==Tryz.checked.prog.plainKeys)=true:=by kernel_rfl
theorem qmu:Rows.nodeOldRow.shortTexts.isNone=true:=by kernel_rfl
theorem qmv:Tryz.checked.prog.stopsHeard=true:=by kernel_rfl
theorem qmw:Tryz.checked.prog.mayEnter=true:=by kernel_rfl
theorem qmx:(Rows.nodeOldRow.lifted==Tryz.checked.prog.liftsFinal)=true:=by kernel_rfl
theorem qmy:(Tryz.checked.prog.make==some Rows.nodeOldRow.make)=true:=by kernel_rfl
theorem qmz:(Rows.nodeOldRow.kinds==(if Rows.nodeOldRow.domain.isEmpty then [] else Tryz.f6.params.toList.map fun t=>match Tryz.checked.prog.underlying t with | some (.int k)=>some k | _=>none))=true:=by kernel_rfl
theorem qmA:(Rows.nodeOldRow.pinned==Rows.nodeOldRow.pinnedBy)=true:=by kernel_rfl
theorem qmB:(Rows.nodeOldRow.veiled==(Tryz.f6.params.toList++Rows.nodeOldSpec.plain.varTypes Tryz.checked.prog++Tryz.f6.resultTypes.toList).any (Tryz.checked.prog.veiledRec ·))=true:=by kernel_rfl
theorem qmC:Rows.nodeOldRow.veiledFits Tryz.checked.prog Tryz.f6.params.toList (Tryz.f6.params.toList++Rows.nodeOldSpec.plain.varTypes Tryz.checked.prog++Tryz.f6.resultTypes.toList)=true:=by kernel_rfl
theorem qjW:joinedFacts Tryz.checked.prog 6 Tryz.f6 Rows.nodeOldSpec Rows.nodeOldRow=true:=qam (qam (qam (qam (qam (qam (qam (qam (qam (qam (qam (qam (qam (qam (qam (qam (qam (qam (qam (qam (qam (qam (qam (qam (qam (qam (qam (qam (qam (qam (qam (qn8) qn9) qoa) qob) qoc) qod) qoe) qof) qog) qoh) qmh) qmi) qmj) qmk) qml) qmm) qmn) qmo) qmp) qmq) qmr) qms) qmt) qmu) qmv) qmw) qmx) qmy) qmz) qmA) qmB) qmC
end Go.Proofs.YtfhhdgkhajkapaaGreat
/- What may not be, or is over, is refused: the plain law of NodeOld; a node's way up. -/
namespace Go.Proofs.NO
open Go Go.Idl Go.Proofs Go.GP Go.GN Go.Proofs.Tryz
variable {N:Int} {ls:List (Int × Int)} {T:List Nd} {t:Int} {x:No} {ff:Bool} {st:St} {link:Int} {f:Fm}
theorem qqy (h:indexL link 0 (ins x.h.node 0 ls) < 0∨ ¬FrP f):hearN ls ff st x link f=errT 1:=by unfold hearN;rw [if_pos h]
theorem qqz (h1:0≤indexL link 0 (ins x.h.node 0 ls)) (h2:FrP f) (k0:f.kind≠0) (k6:f.kind≠6) (ho:f.epoch < x.t.epoch):(hearN ls ff st x link f).e=1∨(hearN ls ff st x link f).e=9:=by
 unfold hearN
 rw [if_neg (by rintro(q | q);omega;exact q h2),if_neg k0]
 split
 ·unfold floodedN
  split
  ·exact .inr rfl
  ·exact .inl rfl
 split
 ·unfold repliedN
  have:replyT x.t f.epoch (qaz ls link) (f.kind==3)=(zTr,1):=by unfold replyT;rw [if_pos (.inl (by omega))]
  rw [this,if_pos (by decide)]
  exact .inl rfl
 split
 ·unfold reportedN
  rw [if_pos (.inl (by omega))]
  exact .inl rfl
 ·exfalso
  rcases h2 with q | q | q | q<;>omega
theorem start_old {e:Int} (h:e≤x.t.epoch):startN ls ff x e=errT 1:=by
 unfold startN;rw [if_pos (by omega)]
end Go.Proofs.NO
/- What the document's host tells; the first host. -/
namespace Go.Proofs.NO
open Go Go.Idl Go.Proofs Go.GP Go.Proofs.Tryz
set_option maxHeartbeats 20000000
set_option maxRecDepth 100000
theorem qn4 (f:Fm) (hn:f.ps.length≤1000):Pure prog 42 [lFm f] (lFm f):=by
 obtain⟨f1,f2,⟨f3,f4⟩,f5,f6,f7,f8,f9⟩:=f
 refine pcall0 200 (fn:=f42) func42 rfl (by simp [ntmps42]) zB zB fun hs=>?_
 try refine zW ?_
 (refine zM [1,2,105] ?_;refine zI [none,none,none,none,none,none,none,none,some [0,1,2,3,4,5,9,10,11,12,13,14,15,16],none,none,none,none,none,none,none,none,none,some []] ?_)
 try refine zW ?_
 (refine zF ?_;refine callA_of (Refs_spec f5 hn) zB ?_)
 ((try refine zW ?_);(try with_reducible exact True.intro))
theorem qmU (f:Fm):Pure prog 112 [lFm f] (scb (tB (qdg f))):=by
 obtain⟨f1,f2,⟨f3,f4⟩,f5,f6,f7,f8,f9⟩:=f
 refine pcall0 200 (fn:=f112) func112 rfl (by simp [ntmps112]) zB zB fun hs=>?_
 try refine zW ?_
 by_cases c6:f6=0
 rotate_left
 ·have ez:tB (qdg ⟨f1,f2,(f3,f4),f5,f6,f7,f8,f9⟩)=false:=qaf fun q=>c6 (q.1)
  (try simp (maxSteps:=2000000) (disch:=omega) only [go_sem,simprocAttr,zD,zE,ez])
 try refine zO ?_
 by_cases c7:f7=0
 rotate_left
 ·have ez:tB (qdg ⟨f1,f2,(f3,f4),f5,f6,f7,f8,f9⟩)=false:=qaf fun q=>c7 (q.2.1)
  (try simp (maxSteps:=2000000) (disch:=omega) only [go_sem,simprocAttr,zD,zE,ez])
 try refine zO ?_
 by_cases c8:f8=0
 rotate_left
 ·have ez:tB (qdg ⟨f1,f2,(f3,f4),f5,f6,f7,f8,f9⟩)=false:=qaf fun q=>c8 (q.2.2.1)
  (try simp (maxSteps:=2000000) (disch:=omega) only [go_sem,simprocAttr,zD,zE,ez])
 try refine zO ?_
 cases f9 with
 | nil=>
   have ez:tB (qdg ⟨f1,f2,(f3,f4),f5,f6,f7,f8, []⟩)=true:=qal ⟨c6,c7,c8,rfl⟩
   (try simp (maxSteps:=2000000) (disch:=omega) only [go_sem,simprocAttr,zD,zE,ez])
 | cons a r=>
   have ez:tB (qdg ⟨f1,f2,(f3,f4),f5,f6,f7,f8,a::r⟩)=false:=qaf fun q=>by have:=q.2.2.2;cases this
   (try simp (maxSteps:=2000000) (disch:=omega) only [go_sem,simprocAttr,zD,zE,ez])
theorem qkS (f:Fm):Pure prog 111 [lFm f] (scb (tB (qbp f))):=by
 obtain⟨f1,f2,⟨f3,f4⟩,f5,f6,f7,f8,f9⟩:=f
 refine pcall0 200 (fn:=f111) func111 rfl (by simp [ntmps111]) zB zB fun hs=>?_
 try refine zW ?_
 by_cases c2:f2=0
 rotate_left
 ·have ez:tB (qbp ⟨f1,f2,(f3,f4),f5,f6,f7,f8,f9⟩)=false:=qaf fun q=>c2 (q.1)
  (try simp (maxSteps:=2000000) (disch:=omega) only [go_sem,simprocAttr,zD,zE,ez])
 try refine zO ?_
 cases cm:(f3==0 && f4==0) with
 | false=>
   have ez:tB (qbp ⟨f1,f2,(f3,f4),f5,f6,f7,f8,f9⟩)=false:=qaf fun q=>by
    have:=q.2.1
    simp only [Prod.mk.injEq] at this
    rw [this.1,this.2] at cm;cases cm
   (try simp (maxSteps:=2000000) (disch:=omega) only [go_sem,simprocAttr,zD,zE,cm,ez])
 | true=>
 obtain⟨rfl,rfl⟩:f3=0∧f4=0:=by simpa using cm
 (try simp (maxSteps:=2000000) (disch:=omega) only [go_sem,simprocAttr,zD,zE,cm])
 cases f5 with
 | cons a r=>
   have ez:tB (qbp ⟨f1,f2,(0,0),a::r,f6,f7,f8,f9⟩)=false:=qaf fun q=>by have:=q.2.2.1;cases this
   (try simp (maxSteps:=2000000) (disch:=omega) only [go_sem,simprocAttr,zD,zE,ez])
 | nil=>
 try refine zO ?_
 by_cases a1:0≤f6
 rotate_left
 ·have ez:tB (qbp ⟨f1,f2,(0,0), [],f6,f7,f8,f9⟩)=false:=qaf fun q=>a1 (q.2.2.2.1.1)
  (try simp (maxSteps:=2000000) (disch:=omega) only [go_sem,simprocAttr,zD,zE,ez])
 try refine zO ?_
 by_cases a2:f6≤5
 rotate_left
 ·have ez:tB (qbp ⟨f1,f2,(0,0), [],f6,f7,f8,f9⟩)=false:=qaf fun q=>a2 (q.2.2.2.1.2)
  (try simp (maxSteps:=2000000) (disch:=omega) only [go_sem,simprocAttr,zD,zE,ez])
 try refine zO ?_
 by_cases a3:1≤f7
 rotate_left
 ·have ez:tB (qbp ⟨f1,f2,(0,0), [],f6,f7,f8,f9⟩)=false:=qaf fun q=>a3 (q.2.2.2.2.1.1)
  (try simp (maxSteps:=2000000) (disch:=omega) only [go_sem,simprocAttr,zD,zE,ez])
 try refine zO ?_
 by_cases a4:f7≤200
 rotate_left
 ·have ez:tB (qbp ⟨f1,f2,(0,0), [],f6,f7,f8,f9⟩)=false:=qaf fun q=>a4 (q.2.2.2.2.1.2)
  (try simp (maxSteps:=2000000) (disch:=omega) only [go_sem,simprocAttr,zD,zE,ez])
 try refine zO ?_
 by_cases a5:0≤f8
 rotate_left
 ·have ez:tB (qbp ⟨f1,f2,(0,0), [],f6,f7,f8,f9⟩)=false:=qaf fun q=>a5 (q.2.2.2.2.2.1.1)
  (try simp (maxSteps:=2000000) (disch:=omega) only [go_sem,simprocAttr,zD,zE,ez])
 try refine zO ?_
 by_cases a6:f8≤500
 rotate_left
 ·have ez:tB (qbp ⟨f1,f2,(0,0), [],f6,f7,f8,f9⟩)=false:=qaf fun q=>a6 (q.2.2.2.2.2.1.2)
  (try simp (maxSteps:=2000000) (disch:=omega) only [go_sem,simprocAttr,zD,zE,ez])
 try refine zO ?_
 by_cases a7:1≤f9.length
 rotate_left
 ·have ez:tB (qbp ⟨f1,f2,(0,0), [],f6,f7,f8,f9⟩)=false:=qaf fun q=>a7 (q.2.2.2.2.2.2.1.1)
  (try simp (maxSteps:=2000000) (disch:=omega) only [go_sem,simprocAttr,zD,zE,ez])
 try refine zO ?_
 by_cases a8:f9.length≤6
 rotate_left
 ·have ez:tB (qbp ⟨f1,f2,(0,0), [],f6,f7,f8,f9⟩)=false:=qaf fun q=>a8 (q.2.2.2.2.2.2.1.2)
  (try simp (maxSteps:=2000000) (disch:=omega) only [go_sem,simprocAttr,zD,zE,ez])
 try refine zO ?_
 (refine walk_trim [1,3] trivial zL ?_;((try refine zW ?_);(try with_reducible exact True.intro)))
 refine qac 200 200 (fun i:Nat=>i≤f9.length∧ ∀j (hj:j < f9.length),j < i→0≤f9[j]∧f9[j]≤5)
  (fun i=>⟨82, [(1, .ptr 0 0 0 0),(3,sci .i64 i)], [],1, [(0, .arr 9 0 [[sci .i64 f1,sci .i64 f2,sci .i64 0,sci .i64 0,lPs [],sci .i64 f6,sci .i64 f7,sci .i64 f8,lI f9]])]⟩) (fun i=>f9.length - i) (0) [] ?_ ?_ ?_
 ·simp
 ·constructor<;>(try simp (maxSteps:=2000000) (disch:=omega) only [go_sem,simprocAttr,zD,zE,Int.natCast_zero,List.take_of_length_le,List.append_assoc])
 ·rintro i hi
  obtain⟨hi,hinvi⟩:=hi
  try refine zW ?_
  by_cases li:i < f9.length
  ·by_cases ci:0≤f9[i]∧f9[i]≤5
   ·obtain⟨ci1,ci2⟩:=ci
    have hst: ∀j (hj:j < f9.length),j < i+1→0≤f9[j]∧f9[j]≤5:=fun j hj hl=>by
     rcases Nat.lt_or_ge j i with q | q
     ·exact hinvi j hj q
     ·obtain rfl:j=i:=by omega
      exact⟨ci1,ci2⟩
    (try simp (maxSteps:=2000000) (disch:=omega) only [go_sem,simprocAttr,zD,zE,eI])
    refine⟨i+1, [],⟨by first | assumption | omega,hst⟩,?_,?_⟩
    ·(try simp only []);omega
    ·constructor<;>(try simp (maxSteps:=2000000) (disch:=omega) only [go_sem,simprocAttr,zD,zE,List.append_assoc])
   ·have ez:tB (qbp ⟨f1,f2,(0,0), [],f6,f7,f8,f9⟩)=false:=qaf fun q=>ci (q.2.2.2.2.2.2.2 _ (List.getElem_mem li))
    by_cases cj:0≤f9[i]
    ·have ck: ¬f9[i]≤5:=fun q=>ci ⟨cj,q⟩
     (try simp (maxSteps:=2000000) (disch:=omega) only [go_sem,simprocAttr,zD,zE,eI,ez])
    ·(try simp (maxSteps:=2000000) (disch:=omega) only [go_sem,simprocAttr,zD,zE,eI,ez])
  ·have ez:tB (qbp ⟨f1,f2,(0,0), [],f6,f7,f8,f9⟩)=true:=qal ⟨c2,rfl,rfl,⟨a1,a2⟩,⟨a3,a4⟩,⟨a5,a6⟩,⟨a7,a8⟩,fun x hx=>by
    obtain⟨j,hj,rfl⟩:=List.getElem_of_mem hx
    have hj':j < f9.length:=hj
    exact hinvi j hj' (by omega)⟩
   (try simp (maxSteps:=2000000) (disch:=omega) only [go_sem,simprocAttr,zD,zE,ez])
theorem qkR (f:Fm) (hg: ∀p∈f.ps,gPc p):Pure prog 41 [lFm f] (scb (tB (FrP f))):=by
 obtain⟨f1,f2,⟨f3,f4⟩,f5,f6,f7,f8,f9⟩:=f
 simp only at hg
 refine pcall0 200 (fn:=f41) func41 rfl (by simp [ntmps41]) zB zB fun hs=>?_
 simp (maxSteps:=2000000) only [go_sem,simprocAttr,maxLen] at hs
 try refine zW ?_
 by_cases k6:f1=6
 ·have ez:tB (FrP ⟨f1,f2,(f3,f4),f5,f6,f7,f8,f9⟩)=tB (qbp ⟨f1,f2,(f3,f4),f5,f6,f7,f8,f9⟩):=qcj ⟨fun q=>by
   rcases q with q | q | q | q
   ·exact q.2
   ·have:=q.1;simp only at this;omega
   ·have:=q.1;simp only at this;omega
   ·have:=q.1;simp only at this;omega,fun q=> .inl ⟨k6,q⟩⟩
  rw [ez]
  subst k6
  try refine zO ?_
  (refine zG ?_;refine callA_of (qkS ⟨6,f2,(f3,f4),f5,f6,f7,f8,f9⟩) zB ?_;((try refine zW ?_);(try with_reducible exact True.intro)))
 try refine zO ?_
 by_cases k0:0≤f1
 rotate_left
 ·have ez:tB (FrP ⟨f1,f2,(f3,f4),f5,f6,f7,f8,f9⟩)=false:=qaf fun q=>k0 (by rcases q with q | q | q | q<;>(have:=q.1;simp only at this;omega))
  (try simp (maxSteps:=2000000) (disch:=omega) only [go_sem,simprocAttr,zD,zE,ez])
 try refine zO ?_
 by_cases k7:f1≤6
 rotate_left
 ·have ez:tB (FrP ⟨f1,f2,(f3,f4),f5,f6,f7,f8,f9⟩)=false:=qaf fun q=>k7 (by rcases q with q | q | q | q<;>(have:=q.1;simp only at this;omega))
  (try simp (maxSteps:=2000000) (disch:=omega) only [go_sem,simprocAttr,zD,zE,ez])
 try refine zO ?_
 (refine zG ?_;refine callA_of (qmU ⟨f1,f2,(f3,f4),f5,f6,f7,f8,f9⟩) zB ?_;try refine zW ?_)
 by_cases cb:qdg ⟨f1,f2,(f3,f4),f5,f6,f7,f8,f9⟩
 rotate_left
 ·have ez:tB (FrP ⟨f1,f2,(f3,f4),f5,f6,f7,f8,f9⟩)=false:=qaf fun q=>by
   rcases q with q | q | q | q
   ·have:=q.1;simp only at this;omega
   ·exact cb q.2.1
   ·exact cb q.2.1.1
   ·exact cb q.2.1.1
  have eb:=qaf cb
  (try simp (maxSteps:=2000000) (disch:=omega) only [go_sem,simprocAttr,zD,zE,ez,eb])
 have eb:=qal cb
 (try simp (maxSteps:=2000000) (disch:=omega) only [go_sem,simprocAttr,zD,zE,eb])
 by_cases e0:0≤f2
 rotate_left
 ·have ez:tB (FrP ⟨f1,f2,(f3,f4),f5,f6,f7,f8,f9⟩)=false:=qaf fun q=>e0 (by
   rcases q with q | q | q | q
   ·have:=q.1;simp only at this;omega
   ·exact q.2.2.1.1
   ·have:=q.2.1.2.1;simp only at this;omega
   ·have:=q.2.1.2.1;simp only at this;omega)
  (try simp (maxSteps:=2000000) (disch:=omega) only [go_sem,simprocAttr,zD,zE,ez])
 try refine zO ?_
 by_cases e1:f2≤200
 rotate_left
 ·have ez:tB (FrP ⟨f1,f2,(f3,f4),f5,f6,f7,f8,f9⟩)=false:=qaf fun q=>e1 (by
   rcases q with q | q | q | q
   ·have:=q.1;simp only at this;omega
   ·exact q.2.2.1.2
   ·have:=q.2.1.2.1;simp only at this;omega
   ·have:=q.2.1.2.1;simp only at this;omega)
  (try simp (maxSteps:=2000000) (disch:=omega) only [go_sem,simprocAttr,zD,zE,ez])
 try refine zO ?_
 by_cases z0:f1=0
 ·subst z0
  try refine zO ?_
  cases f5 with
  | cons a r=>
    have ez:tB (FrP ⟨0,f2,(f3,f4),a::r,f6,f7,f8,f9⟩)=false:=qaf fun q=>by
     rcases q with q | q | q | q
     ·have:=q.1;simp only at this;omega
     ·have:=q.2.2.2.1;cases this
     ·have:=q.1;simp only at this;omega
     ·have:=q.1;simp only at this;omega
    (try simp (maxSteps:=2000000) (disch:=omega) only [go_sem,simprocAttr,zD,zE,ez])
  | nil=>
  try refine zO ?_
  by_cases m1:1≤f3∧f3≤500∧0≤f4∧f4≤3
  ·have ez:tB (FrP ⟨0,f2,(f3,f4), [],f6,f7,f8,f9⟩)=true:=qal (.inr (.inl ⟨rfl,cb,⟨e0,e1⟩,rfl,⟨m1.1,m1.2.1⟩,m1.2.2⟩))
   obtain⟨m1,m2,m3,m4⟩:=m1
   (try simp (maxSteps:=2000000) (disch:=omega) only [go_sem,simprocAttr,zD,zE,ez])
  ·have ez:tB (FrP ⟨0,f2,(f3,f4), [],f6,f7,f8,f9⟩)=false:=qaf fun q=>by
    rcases q with q | q | q | q
    ·have:=q.1;simp only at this;omega
    ·exact m1 ⟨q.2.2.2.2.1.1,q.2.2.2.2.1.2,q.2.2.2.2.2⟩
    ·have:=q.1;simp only at this;omega
    ·have:=q.1;simp only at this;omega
   by_cases n1:1≤f3
   ·by_cases n2:f3≤500
    ·by_cases n3:0≤f4
     ·have n4: ¬f4≤3:=fun q=>m1 ⟨n1,n2,n3,q⟩
      (try simp (maxSteps:=2000000) (disch:=omega) only [go_sem,simprocAttr,zD,zE,ez])
     ·(try simp (maxSteps:=2000000) (disch:=omega) only [go_sem,simprocAttr,zD,zE,ez])
    ·(try simp (maxSteps:=2000000) (disch:=omega) only [go_sem,simprocAttr,zD,zE,ez])
   ·(try simp (maxSteps:=2000000) (disch:=omega) only [go_sem,simprocAttr,zD,zE,ez])
 try refine zO ?_
 by_cases e2:1≤f2
 rotate_left
 ·have ez:tB (FrP ⟨f1,f2,(f3,f4),f5,f6,f7,f8,f9⟩)=false:=qaf fun q=>e2 (by
   rcases q with q | q | q | q
   ·have:=q.1;simp only at this;omega
   ·have:=q.1;simp only at this;omega
   ·have:=q.2.1.2.1;simp only at this;omega
   ·have:=q.2.1.2.1;simp only at this;omega)
  (try simp (maxSteps:=2000000) (disch:=omega) only [go_sem,simprocAttr,zD,zE,ez])
 try refine zO ?_
 cases cm:(f3==0 && f4==0) with
 | false=>
   have ez:tB (FrP ⟨f1,f2,(f3,f4),f5,f6,f7,f8,f9⟩)=false:=qaf fun q=>by
    have:f3=0∧f4=0:=by
     rcases q with q | q | q | q
     ·have:=q.1;simp only at this;omega
     ·have:=q.1;simp only at this;omega
     ·have:=q.2.1.2.2;simpa using this
     ·have:=q.2.1.2.2;simpa using this
    rw [this.1,this.2] at cm;cases cm
   (try simp (maxSteps:=2000000) (disch:=omega) only [go_sem,simprocAttr,zD,zE,cm,ez])
 | true=>
 obtain⟨rfl,rfl⟩:f3=0∧f4=0:=by simpa using cm
 (try simp (maxSteps:=2000000) (disch:=omega) only [go_sem,simprocAttr,zD,zE,cm])
 by_cases z5:f1=5
 rotate_left
 ·try refine zO ?_
  cases f5 with
  | nil=>
    have ez:tB (FrP ⟨f1,f2,(0,0), [],f6,f7,f8,f9⟩)=true:=qal (.inr (.inr (.inl ⟨by simp only;omega,⟨cb,⟨e2,e1⟩,rfl⟩,rfl⟩)))
    (try simp (maxSteps:=2000000) (disch:=omega) only [go_sem,simprocAttr,zD,zE,ez])
  | cons a r=>
    have ez:tB (FrP ⟨f1,f2,(0,0),a::r,f6,f7,f8,f9⟩)=false:=qaf fun q=>by
     rcases q with q | q | q | q
     ·have:=q.1;simp only at this;omega
     ·have:=q.1;simp only at this;omega
     ·have:=q.2.2;cases this
     ·have:=q.1;simp only at this;omega
    (try simp (maxSteps:=2000000) (disch:=omega) only [go_sem,simprocAttr,zD,zE,ez])
 subst z5
 try refine zO ?_
 (refine walk_trim [1,3] trivial zL ?_;((try refine zW ?_);(try with_reducible exact True.intro)))
 refine qac 200 200 (fun i:Nat=>i≤f5.length∧ ∀j (hj:j < f5.length),j < i→qaA f5[j])
  (fun i=>⟨115, [(1, .ptr 0 0 0 0),(3,sci .i64 i)], [],1, [(0, .arr 9 0 [[sci .i64 5,sci .i64 f2,sci .i64 0,sci .i64 0,lPs f5,sci .i64 f6,sci .i64 f7,sci .i64 f8,lI f9]])]⟩) (fun i=>f5.length - i) (0) [] ?_ ?_ ?_
 ·simp
 ·constructor<;>(try simp (maxSteps:=2000000) (disch:=omega) only [go_sem,simprocAttr,zD,zE,Int.natCast_zero,List.take_of_length_le,List.append_assoc])
 ·rintro i hi
  obtain⟨hi,hinvi⟩:=hi
  try refine zW ?_
  by_cases li:i < f5.length
  ·(try simp (maxSteps:=2000000) (disch:=omega) only [go_sem,simprocAttr,zD,zE,ePc])
   (refine zG ?_;refine callA_of (qkQ f5[i] (hg _ (List.getElem_mem li))) zB ?_;try refine zW ?_)
   by_cases ci:qaA f5[i]
   ·have ei:=qal ci
    have hst: ∀j (hj:j < f5.length),j < i+1→qaA f5[j]:=fun j hj hl=>by
     rcases Nat.lt_or_ge j i with q | q
     ·exact hinvi j hj q
     ·obtain rfl:j=i:=by omega
      exact ci
    (try simp (maxSteps:=2000000) (disch:=omega) only [go_sem,simprocAttr,zD,zE,ei])
    refine⟨i+1, [],⟨by first | assumption | omega,hst⟩,?_,?_⟩
    ·(try simp only []);omega
    ·constructor<;>(try simp (maxSteps:=2000000) (disch:=omega) only [go_sem,simprocAttr,zD,zE,List.append_assoc])
   ·have ei:=qaf ci
    have ez:tB (FrP ⟨5,f2,(0,0),f5,f6,f7,f8,f9⟩)=false:=qaf fun q=>by
     rcases q with q | q | q | q
     ·have:=q.1;simp only at this;omega
     ·have:=q.1;simp only at this;omega
     ·have:=q.1;simp only at this;omega
     ·exact ci (q.2.2.2 _ (List.getElem_mem li))
    (try simp (maxSteps:=2000000) (disch:=omega) only [go_sem,simprocAttr,zD,zE,ei,ez])
  ·by_cases cl:1≤f5.length∧f5.length≤6
   ·have ez:tB (FrP ⟨5,f2,(0,0),f5,f6,f7,f8,f9⟩)=true:=qal (.inr (.inr (.inr ⟨rfl,⟨cb,⟨e2,e1⟩,rfl⟩,cl,fun x hx=>by
     obtain⟨j,hj,rfl⟩:=List.getElem_of_mem hx
     have hj':j < f5.length:=hj
     exact hinvi j hj' (by omega)⟩)))
    obtain⟨cl1,cl2⟩:=cl
    (try simp (maxSteps:=2000000) (disch:=omega) only [go_sem,simprocAttr,zD,zE,ez])
   ·have ez:tB (FrP ⟨5,f2,(0,0),f5,f6,f7,f8,f9⟩)=false:=qaf fun q=>by
     rcases q with q | q | q | q
     ·have:=q.1;simp only at this;omega
     ·have:=q.1;simp only at this;omega
     ·have:=q.1;simp only at this;omega
     ·exact cl q.2.2.1
    by_cases cl1:1≤f5.length
    ·have cl2: ¬f5.length≤6:=fun q=>cl ⟨cl1,q⟩
     (try simp (maxSteps:=2000000) (disch:=omega) only [go_sem,simprocAttr,zD,zE,ez])
    ·(try simp (maxSteps:=2000000) (disch:=omega) only [go_sem,simprocAttr,zD,zE,ez])
theorem qn5 (h:Hs):Pure prog 47 [lHs h] (lHs h):=by
 refine pcall0 200 (fn:=f47) func47 rfl (by simp [ntmps47]) zB zB fun hs=>?_
 (repeat(first | ((refine zW ?_;try with_reducible exact True.intro))))
theorem qmd (m:Mk):Pure prog 119 [lMk m] (lMk m):=by
 obtain⟨ep,opn,⟨q1,q2,q3,q4,q5,q6⟩⟩:=m
 refine pcall0 200 (fn:=f119) func119 rfl (by simp [ntmps119]) zB zB fun hs=>?_
 try refine zW ?_
 (refine zM [1,2,111] ?_;refine zI [none,none,none,none,none,none,some [0,1,2,3],none,some []] ?_)
 try refine zW ?_
 (refine zF ?_;refine callA_of (qeM ⟨q1,q2,q3,q4,q5,q6⟩) zB ?_)
 ((try refine zW ?_);(try with_reducible exact True.intro))
theorem qme (u:Hu):Pure prog 120 [lHu u] (lHu u):=by
 obtain⟨ep,⟨q1,q2,q3,q4,q5,q6⟩⟩:=u
 refine pcall0 200 (fn:=f120) func120 rfl (by simp [ntmps120]) zB zB fun hs=>?_
 try refine zW ?_
 (refine zM [1,2,113] ?_;refine zI [none,none,none,none,some [0,1],none,some []] ?_)
 try refine zW ?_
 (refine zF ?_;refine callA_of (qeM ⟨q1,q2,q3,q4,q5,q6⟩) zB ?_)
 ((try refine zW ?_);(try with_reducible exact True.intro))
theorem qmf (x:No) (hn:x.got.length≤1000):Pure prog 44 [lNo x] (lNo x):=by
 obtain⟨⟨h1,h2,h3,h4,h5⟩,⟨m1,m2,⟨m3,m4,m5,m6,m7,m8⟩⟩,⟨u1,⟨u2,u3,u4,u5,u6,u7⟩⟩,⟨t1,t2,t3,t4⟩,got,heard,told,seen⟩:=x
 simp only at hn
 refine pcall0 200 (fn:=f44) func44 rfl (by simp [ntmps44]) zB zB fun hs=>?_
 try refine zW ?_
 (refine zM [1,2,116] ?_;refine zI [none,none,some [3,4,6,7,9,10,12,13,15,16,17,18,19,20],none,none,some [6,7,9,10,12,13,15,16,17,18,19,20],none,none,some [9,10,12,13,15,16,17,18,19,20],none,none,some [12,13,15,16,17,18,19,20],none,none,some [15,16,17,18,19,20],none,none,none,none,none,none,none,some []] ?_)
 try refine zW ?_
 (refine zF ?_;refine callA_of (qn5 ⟨h1,h2,h3,h4,h5⟩) zB ?_)
 try refine zW ?_
 (refine zF ?_;refine callA_of (qmd ⟨m1,m2,⟨m3,m4,m5,m6,m7,m8⟩⟩) zB ?_)
 try refine zW ?_
 (refine zF ?_;refine callA_of (qme ⟨u1,⟨u2,u3,u4,u5,u6,u7⟩⟩) zB ?_)
 try refine zW ?_
 (refine zF ?_;refine callA_of (qqg t1 t2 t3 t4) zB ?_)
 try refine zW ?_
 (refine zF ?_;refine callA_of (Refs_spec got hn) zB ?_)
 ((try refine zW ?_);(try with_reducible exact True.intro))
theorem qjX (m:Mk) (hg:gPc m.p) (ho:m.opn.length≤1000000):Pure prog 115 [lMk m,lMk m] (scb true):=by
 obtain⟨b1,b2,b3,b4,b5⟩:=hg
 have h6:=qdO m.p (by omega) (by omega) (by omega) b5
 obtain⟨ep,opn,⟨q1,q2,q3,q4,q5,q6⟩⟩:=m
 simp only at ho h6
 refine pcall0 200 (fn:=f115) func115 rfl (by simp [ntmps115]) zB zB fun hs=>?_
 try refine zW ?_
 (try simp (maxSteps:=2000000) (disch:=omega) only [go_sem,simprocAttr,zD,zE,beq_self_eq_true])
 (refine zG ?_;refine callA_of (h6) zB ?_;try refine zW ?_)
 try refine zO ?_
 (refine walk_trim [2,3,5] trivial zL ?_;((try refine zW ?_);(try with_reducible exact True.intro)))
 refine qac 200 200 (fun i:Nat=>i≤opn.length)
  (fun i=>⟨46, [(2, .ptr 0 0 0 0),(3, .ptr 1 0 0 0),(5,sci .i64 i)], [],2, [(1, .arr 8 0 [[sci .i64 ep,lBo opn,sci .i64 q1,sci .i64 q2,sci .i64 q3,lI q4,lMs q5,lLs q6]]),(0, .arr 8 0 [[sci .i64 ep,lBo opn,sci .i64 q1,sci .i64 q2,sci .i64 q3,lI q4,lMs q5,lLs q6]])]⟩) (fun i=>opn.length - i) (0) [] ?_ ?_ ?_
 ·simp
 ·constructor<;>(try simp (maxSteps:=2000000) (disch:=omega) only [go_sem,simprocAttr,zD,zE,Int.natCast_zero,List.take_of_length_le,List.append_assoc])
 ·rintro i hi
  try refine zW ?_
  by_cases li:i < opn.length
  ·cases hb:opn[i]
   all_goals
    (try simp (maxSteps:=2000000) (disch:=omega) only [go_sem,simprocAttr,zD,zE,eB,hb])
    (refine zM [2,3,5] ?_;refine zI [none,none,none,none,none,none,none,none,none,none,none] ?_)
    (try simp (maxSteps:=2000000) (disch:=omega) only [go_sem,simprocAttr,zD,zE,eB,hb])
    refine⟨i+1, [],by first | assumption | omega,?_,?_⟩
    ·(try simp only []);omega
    ·constructor<;>(try simp (maxSteps:=2000000) (disch:=omega) only [go_sem,simprocAttr,zD,zE,List.append_assoc])
  ·obtain rfl:i=opn.length:=by omega
   ((try refine zO ?_);(try with_reducible exact True.intro))
structure gNo (x:No):Prop where
 h:gHs x.h
 m:gPc x.m.p
 o:x.m.opn.length≤1000000
 u:gPc x.u.p
 t:x.t.kids.length≤1000000
 g:x.got.length≤1000
 s:x.seen.length≤1000000
theorem qpE {α:Type} (a:α) (l m:List α):(a::l).append m=a::l.append m:=rfl
theorem qqK {α:Type} (m:List α):([]:List α).append m=m:=rfl
theorem qjY (x:No) (hg:gNo x):Pure prog 43 [lNo x,lNo x] (scb true):=by
 obtain⟨gh,gm,go,gu,gt,gg,gs⟩:=hg
 have s9:=qkT x.h gh
 have s10:=qjX x.m gm go
 obtain⟨b1,b2,b3,b4,b5⟩:=gu
 have s6:=qdO x.u.p (by omega) (by omega) (by omega) b5
 have s12:=Same_specH x.t.epoch x.t.up x.t.wait x.t.kids x.t.epoch x.t.up x.t.wait x.t.kids
 have sA:=qqc x.got x.got
 rw [qbs.2 rfl] at sA
 have sI:=qeh x.seen gs
 simp only [beq_self_eq_true,Bool.and_self,Bool.and_true] at s12
 obtain⟨⟨h1,h2,h3,h4,h5⟩,⟨m1,m2,⟨m3,m4,m5,m6,m7,m8⟩⟩,⟨u1,⟨u2,u3,u4,u5,u6,u7⟩⟩,⟨t1,t2,t3,t4⟩,got,heard,told,seen⟩:=x
 simp only at s9 s10 s6 s12 sA sI
 refine pcall0 200 (fn:=f43) func43 rfl (by simp [ntmps43]) zB zB fun hs=>?_
 simp only [qpE,qqK]
 try refine zW ?_
 (refine zG ?_;refine callA_of (s9) zB ?_)
 try refine zW ?_
 (refine zG ?_;refine callA_of (s10) zB ?_;try refine zW ?_)
 (try simp (maxSteps:=2000000) (disch:=omega) only [go_sem,simprocAttr,zD,zE,beq_self_eq_true])
 (refine zG ?_;refine callA_of (s6) zB ?_)
 try refine zW ?_
 (refine zG ?_;refine callA_of (s12) zB ?_)
 try refine zW ?_
 (refine zG ?_;refine callA_of (sA) zB ?_;try refine zW ?_)
 (try simp (maxSteps:=2000000) (disch:=omega) only [go_sem,simprocAttr,zD,zE,beq_self_eq_true])
 (refine zG ?_;refine callA_of (sI) zB ?_;try refine zW ?_)
 (try simp (maxSteps:=2000000) (disch:=omega) only [go_sem,simprocAttr,zD,zE,beq_self_eq_true])
end Go.Proofs.NO
