/- Facts that the proofs of this claim lean on. -/
import Derived.Test.YtfhhdgkhajkapaaGreatNNa
import Derived.Test.YtfhhdgkhajkapaaGreatNPJ
import Derived.Test.YtfhhdgkhajkapaaGreatIdLi
import Derived.Test.YtfhhdgkhajkapaaGreatGN
import Derived.Test.YtfhhdgkhajkapaaGreatNzCl
import Derived.Test.YtfhhdgkhajkapaaGreatNGb
import Derived.Test.YtfhhdgkhajkapaaGreatNQB
import Derived.Test.YtfhhdgkhajkapaaGreatNzP4
set_option linter.unusedSimpArgs false
set_option linter.unusedVariables false
/- What a node's parts do: marks, colours. -/
namespace Go.Proofs.NO
open Go Go.Idl Go.Proofs Go.GP Go.Proofs.Tryz
set_option maxHeartbeats 20000000
set_option maxRecDepth 100000
theorem qow (u:Hu) (e:Int):Pure prog 303 [lHu u,sci .i64 e] (scb (decide (e≤u.epoch))):=by
 refine pcall0 200 (fn:=f303) func303 rfl (by simp [ntmps303]) zB zB fun hs=>?_
 ((try refine zW ?_);(try with_reducible exact True.intro))
theorem qdA (u:Hu) (h:Hs) (e:Int) (hg:gHs h):Pure prog 191 [lHu u,lHs h,sci .i64 e] (.tup [lHu (qa1 u h e).1,scb (qa1 u h e).2]):=by
 unfold qa1
 by_cases c:e≤u.epoch
 ·rw [if_pos c]
  refine pcall0 200 (fn:=f191) func191 rfl (by simp [ntmps191]) zB zB fun hs=>?_
  ((try refine zO ?_);(try with_reducible exact True.intro))
 ·rw [if_neg c]
  refine pcall0 200 (fn:=f191) func191 rfl (by simp [ntmps191]) zB zB fun hs=>?_
  try refine zO ?_
  (refine zG ?_;refine callA_of (qmQ h hg) zB ?_)
  (try simp (disch:=omega) only [go_sem,simprocAttr,zD,zE,pcL])
theorem qmV (n:Nat) (hn:n≤5):Pure prog 249 [.p (.imm 1 [[.sc (.bool true)]]),sci .i64 n] (lBo (List.replicate n true)):=by
 obtain rfl | rfl | rfl | rfl | rfl | rfl:n=0∨n=1∨n=2∨n=3∨n=4∨n=5:=by omega
 all_goals exact ycall 1000 (fun _=>false) (fun _=>false) (by kernel_rfl)
theorem qeH (h:Hs) (e:Int) (hg:gHs h) (h5:h.inn.length≤5):Pure prog 190 [lHs h,sci .i64 e] (lMk (qa6 h e)):=by
 refine pcall0 200 (fn:=f190) func190 rfl (by simp [ntmps190]) zB zB fun hs=>?_
 try refine zW ?_
 (refine walk_trim [1,2,4,77] trivial zL ?_;((try refine zW ?_);(try with_reducible exact True.intro)))
 refine qhY (id:=1) (n:=200) [none,some [0,2,3,4,6],none,none,none,some [0,6],none,some [0],none,some []] mixed (by kernel_rfl) (qeX 1 ?_)
 simp only [List.take_succ_cons,List.take_zero,List.drop_succ_cons,List.drop_zero]
 try refine zW ?_
 refine qpn (zs:= [(0,scb true)]) (sz:=1) (cs:= [scb true]) (ps:= [.sc (.bool true)]) ?_ ?_ ?_ ?_ ?_ ?_
 ·rfl
 ·((try refine zW ?_);(try with_reducible exact True.intro))
 ·(try simp (maxSteps:=2000000) only [go_sem,simprocAttr,flit])
 ·rfl
 ·rfl
 refine qeX 3 ?_
 simp only [List.take_succ_cons,List.take_zero,List.drop_succ_cons,List.drop_zero]
 (try simp (maxSteps:=2000000) only [go_sem,simprocAttr,chunk])
 (refine zF ?_;refine callA_of (qmV h.inn.length h5) zB ?_)
 try refine zO ?_
 (refine zF ?_;refine callA_of (qmP h hg) zB ?_)
 (try simp (maxSteps:=2000000) (disch:=omega) only [go_sem,simprocAttr,zD,zE,qa6])
theorem qe2 (m:Mk) (a:Int):Pure prog 293 [lMk m,sci .i64 a] (scb (decide (0≤a) && decide (a < m.opn.length))):=by
 refine pcall0 200 (fn:=f293) func293 rfl (by simp [ntmps293]) zB zB fun hs=>?_
 try refine zW ?_
 by_cases c:0≤a
 ·(try simp (disch:=omega) only [go_sem,simprocAttr,zD,zE,c])
 ·(try simp (disch:=omega) only [go_sem,simprocAttr,zD,zE,c])
def qcv (a:Bool):Nat→List Bool→Int
 | _, []=> -1
 | i,x::r=>if x=a then i else qcv a (i+1) r
theorem qhS {a:Bool}: ∀ {l:List Bool} {i:Nat},0≤qcv a i l↔a∈l
 | [],i=>by simp [qcv]
 | x::r,i=>by
   unfold qcv
   split
   ·rename_i e;simp [e]
   ·rename_i e
    rw [qhS,List.mem_cons]
    exact⟨.inr,fun h=>h.resolve_left fun q=>e q.symm⟩
theorem qmb (l:List Bool) (a:Bool):Pure prog 350 [lBo l,scb a] (sci .i64 (qcv a 0 l)):=by
 refine pcall0 200 (fn:=f350) func350 rfl (by simp [ntmps350]) zB zB fun hs=>?_
 simp only [go_sem,simprocAttr,maxLen] at hs
 try refine zW ?_
 refine qac 200 200 (fun i:Nat=>i≤l.length∧qcv a i (l.drop i)=qcv a 0 l)
  (fun i=>⟨19, [(0,lBo l),(1,scb a),(7,sci .i64 l.length),(8,sci .i64 i)], [],0, []⟩) (fun i=>l.length - i) (0) [] ?_ ?_ ?_
 ·simp
 ·constructor<;>(try simp (disch:=omega) only [go_sem,simprocAttr,zD,zE,Int.natCast_zero,List.take_of_length_le,List.append_assoc])
 ·rintro i hi
  obtain⟨hi,hinvi⟩:=hi
  try refine zW ?_
  by_cases li:i < l.length
  ·rw [qba li,qcv] at hinvi
   (try simp (disch:=omega) only [go_sem,simprocAttr,zD,zE,eB])
   by_cases c:l[i]=a
   ·rw [if_pos c] at hinvi
    (try simp (disch:=omega) only [go_sem,simprocAttr,zD,zE,c,←hinvi])
   ·rw [if_neg c] at hinvi
    have c2:(a==l[i])=false:=beq_eq_false_iff_ne.2 fun q=>c q.symm
    (try simp (disch:=omega) only [go_sem,simprocAttr,zD,zE,c2])
    refine⟨i+1, [],⟨li,hinvi⟩,by omega,?_⟩
    constructor<;>((try refine zO ?_);(try with_reducible exact True.intro))
  ·obtain rfl:i=l.length:=by omega
   rw [List.drop_length,qcv] at hinvi
   (try simp (disch:=omega) only [go_sem,simprocAttr,zD,zE,←hinvi])
theorem qg8 (l:List Bool) (a:Bool):Pure prog 336 [lBo l,scb a] (scb (decide (a∈l))):=by
 have h:=qhS (a:=a) (l:=l) (i:=0)
 refine pcall0 200 (fn:=f336) func336 rfl (by simp [ntmps336]) zB zB fun hs=>?_
 try refine zW ?_
 (refine zG ?_;refine callA_of (qmb l a) zB ?_;try refine zW ?_)
 by_cases c:a∈l
 ·have:=h.2 c
  (try simp (disch:=omega) only [go_sem,simprocAttr,zD,zE,c])
 ·have: ¬0≤qcv a 0 l:=fun q=>c (h.1 q)
  (try simp (disch:=omega) only [go_sem,simprocAttr,zD,zE,c])
theorem qoF (m:Mk) (e:Int):Pure prog 302 [lMk m,sci .i64 e] (scb (tB (qf8 m e))):=by
 by_cases c:m.epoch=e
 ·by_cases d:true∈m.opn
  ·have t:tB (qf8 m e)=false:=qaf fun q=>q.2 d
   refine pcall0 200 (fn:=f302) func302 rfl (by simp [ntmps302]) zB zB fun hs=>?_
   (try simp (disch:=omega) only [go_sem,simprocAttr,zD,zE,c])
   (refine zG ?_;refine callA_of (qg8 m.opn true) zB ?_)
   (try simp (disch:=omega) only [go_sem,simprocAttr,zD,zE,d,t])
  ·have t:tB (qf8 m e)=true:=qal ⟨c,d⟩
   refine pcall0 200 (fn:=f302) func302 rfl (by simp [ntmps302]) zB zB fun hs=>?_
   (try simp (disch:=omega) only [go_sem,simprocAttr,zD,zE,c])
   (refine zG ?_;refine callA_of (qg8 m.opn true) zB ?_)
   (try simp (disch:=omega) only [go_sem,simprocAttr,zD,zE,d,t])
 ·have t:tB (qf8 m e)=false:=qaf fun q=>c q.1
  refine pcall0 200 (fn:=f302) func302 rfl (by simp [ntmps302]) zB zB fun hs=>?_
  (try simp (disch:=omega) only [go_sem,simprocAttr,zD,zE,c,t])
theorem qlF (m:Mk) (hg:gPc m.p) (ho:m.opn.length≤1000000):PG prog 294 [lMk m] [] 1
  (.agg [sci .i64 m.epoch, .ref 0 0 0 m.opn.length,sci .i64 m.p.node,sci .i64 m.p.state,sci .i64 m.p.steps,lI m.p.sent,lMs m.p.inn,lLs m.p.out]) [(0, .arr 1 0 (ir eB m.opn))]:=by
 refine pg_of 200 (fn:=f294) func294 rfl (by simp [ntmps294]) 0 rfl zC zC zC zC zC fun hs=>?_
 (try simp (maxSteps:=2000000) (disch:=omega) only [go_sem,simprocAttr,zD,zE,maxLen])
 (refine zM [1,2,3,77] ?_;refine zI [none,none,none,none,none,some [0,1,2],none,some []] ?_)
 try refine zO ?_
 (refine zF ?_;refine callA_of (qkL m.p hg) zB ?_)
 try refine zO ?_
 exact⟨[2],⟨rfl,by simp [qau,qau.nin]⟩,rfl,rfl,rfl,qaO _⟩
theorem qmg (m:Mk) (h:Hs) (e a:Int) (hh:gHs h) (h5:h.inn.length≤5) (hg:gPc m.p) (ho:m.opn.length≤1000000) (hl:m.epoch=e→m.opn.length=h.inn.length):
  Pure prog 243 [lMk m,lHs h,sci .i64 e,sci .i64 a] (.tup [lMk (qa2 m h e a).1,scb (qa2 m h e a).2]):=by
 refine pcall0 200 (fn:=f243) func243 rfl (by simp [ntmps243]) zB zB fun hs=>?_
 try refine zW ?_
 by_cases c1:a < 0
 ·have z:qa2 m h e a=(m,false):=by unfold qa2;rw [if_pos (.inl c1)]
  rw [z]
  (try simp (maxSteps:=2000000) (disch:=omega) only [go_sem,simprocAttr,zD,zE,c1])
 by_cases c2:(h.inn.length:Int)≤a
 ·have z:qa2 m h e a=(m,false):=by unfold qa2;rw [if_pos (.inr c2)]
  rw [z]
  (try simp (maxSteps:=2000000) (disch:=omega) only [go_sem,simprocAttr,zD,zE,c1,c2])
 obtain⟨k,rfl⟩:=Int.eq_ofNat_of_zero_le (show 0≤a by omega)
 have hk:k < h.inn.length:=by omega
 by_cases c3:m.epoch=e
 ·have z:qa2 m h e k=(⟨m.epoch,m.opn.set k false,m.p⟩,false):=by unfold qa2;rw [if_neg (by omega),if_pos c3,Int.toNat_natCast]
  rw [z]
  subst c3
  have hk2:=hl rfl
  have hk3:k < m.opn.length:=by omega
  (try simp (maxSteps:=2000000) (disch:=omega) only [go_sem,simprocAttr,zD,zE,c1,c2])
  (refine at_g 200 ?_;refine zW ?_;refine callG_of [] (qlF m hg ho) zU ?_)
  (try simp (maxSteps:=2000000) (disch:=omega) only [go_sem,simprocAttr,zD,zE,eB])
  rw [List.take_of_length_le (by simp)]
 ·have z:qa2 m h e k=(⟨e,(List.replicate h.inn.length true).set k false,pcF h⟩,true):=by unfold qa2;rw [if_neg (by omega),if_neg c3,Int.toNat_natCast]
  rw [z]
  (try simp (maxSteps:=2000000) (disch:=omega) only [go_sem,simprocAttr,zD,zE,c1,c2,c3])
  (refine zG ?_;refine callA_of (qeH h e hh h5) zB ?_)
  try refine zO ?_
  have hg2:gPc (qa6 h e).p:=by
   obtain⟨g1,g2,g3,g4⟩:=hh
   exact⟨by simp [qa6,pcF];omega,by simp [qa6,pcF];omega,by simp [qa6,pcF],fun x hx=>by simp only [qa6,pcF] at hx;rw [(List.mem_replicate.1 hx).2];simp,fun x hx=>by simp [qa6,pcF] at hx⟩
  have hlen:(List.replicate h.inn.length true).length=h.inn.length:=List.length_replicate
  have ho2:=qlF (qa6 h e) hg2 (by simp [qa6];omega)
  (refine at_g 200 ?_;refine zW ?_;refine callG_of [] (ho2) zU ?_)
  (try simp (maxSteps:=2000000) (disch:=omega) only [go_sem,simprocAttr,zD,zE,eB,qa6])
  rw [List.take_of_length_le (by simp)]
theorem qeh (l:List Int) (hl:l.length≤1000000):Pure prog 118 [lI l,lI l] (scb true):=by
 refine pcall0 200 (fn:=f118) func118 rfl (by simp [ntmps118]) zB zB fun hs=>?_
 try refine zW ?_
 refine qac 200 200 (fun i:Nat=>i≤l.length)
  (fun i=>⟨26, [(0,lI l),(1,lI l),(5,sci .i64 i)], [],0, []⟩) (fun i=>l.length - i) (0) [] ?_ ?_ ?_
 ·simp
 ·constructor<;>(try simp (disch:=omega) only [go_sem,simprocAttr,zD,zE,Int.natCast_zero,List.take_of_length_le,List.append_assoc])
 ·rintro i hi
  try refine zW ?_
  by_cases li:i < l.length
  ·try refine zO ?_
   (refine zM [0,1,5] ?_;refine zI [none,none,none,none,none,none,none,none,none] ?_)
   have e:=beq_self_eq_true l[i]
   (try simp (disch:=omega) only [go_sem,simprocAttr,zD,zE,eI,e])
   refine⟨i+1, [],li,by omega,?_⟩
   constructor<;>((try refine zO ?_);(try with_reducible exact True.intro))
  ·obtain rfl:i=l.length:=by omega
   ((try refine zO ?_);(try with_reducible exact True.intro))
theorem qdO (p:Pc) (h1:p.inn.length≤1000000) (h2:p.out.length≤1000000) (h3:p.sent.length≤1000000) (h4: ∀l∈p.out,l.length≤1000000):Pure prog 87 [lPc p,lPc p] (scb true):=by
 obtain⟨node,state,steps,sent,inn,out⟩:=p
 simp only at h1 h2 h3 h4
 refine pcall0 200 (fn:=f87) func87 rfl (by simp [ntmps87]) zB zB fun hs=>?_
 have a1:=beq_self_eq_true node
 have a2:=beq_self_eq_true state
 have a3:=beq_self_eq_true steps
 try refine zW ?_
 try refine zO ?_
 (refine zG ?_;refine callA_of (qeh sent h3) zB ?_)
 try refine zO ?_
 refine qac 200 200 (fun i:Nat=>i≤inn.length)
  (fun i=>⟨90, [(2, .ptr 0 0 0 0),(3, .ptr 1 0 0 0),(5,sci .i64 i)], [],2, [(1, .arr 6 0 [[sci .i64 node,sci .i64 state,sci .i64 steps,lI sent,lMs inn,lLs out]]),(0, .arr 6 0 [[sci .i64 node,sci .i64 state,sci .i64 steps,lI sent,lMs inn,lLs out]])]⟩) (fun i=>inn.length - i) (0) [] ?_ ?_ ?_
 ·simp
 ·constructor<;>(try simp (maxSteps:=2000000) (disch:=omega) only [go_sem,simprocAttr,zD,zE,Int.natCast_zero,List.take_of_length_le,List.append_assoc])
 ·rintro i hi
  try refine zW ?_
  by_cases li:i < inn.length
  ·(try simp (maxSteps:=2000000) (disch:=omega) only [go_sem,simprocAttr,zD,zE,eMs])
   (refine zM [2,3,5] ?_;refine zI [none,none,none,none,none,none,none,none,none,none,some [],none] ?_)
   (try simp (maxSteps:=2000000) (disch:=omega) only [go_sem,simprocAttr,zD,zE,eMs])
   (refine zF ?_;refine callA_of (Msgs_spec inn[i] inn[i]) zB ?_;try refine zW ?_)
   have e:=beq_self_eq_true inn[i]
   (try simp (maxSteps:=2000000) (disch:=omega) only [go_sem,simprocAttr,zD,zE,e])
   refine⟨i+1, [],li,by omega,?_⟩
   constructor<;>((try refine zO ?_);(try with_reducible exact True.intro))
  ·obtain rfl:i=inn.length:=by omega
   try refine zO ?_
   (refine walk_trim [2,3,6] trivial zL ?_;((try refine zW ?_);(try with_reducible exact True.intro)))
   refine qac 200 200 (fun j:Nat=>j≤out.length)
    (fun j=>⟨90, [(2, .ptr 0 0 0 0),(3, .ptr 1 0 0 0),(6,sci .i64 j)], [],2, [(1, .arr 6 0 [[sci .i64 node,sci .i64 state,sci .i64 steps,lI sent,lMs inn,lLs out]]),(0, .arr 6 0 [[sci .i64 node,sci .i64 state,sci .i64 steps,lI sent,lMs inn,lLs out]])]⟩) (fun j=>out.length - j) (0) [] ?_ ?_ ?_
   ·simp
   ·constructor<;>(try simp (maxSteps:=2000000) (disch:=omega) only [go_sem,simprocAttr,zD,zE,Int.natCast_zero,List.take_of_length_le,List.append_assoc])
   ·rintro j hj
    try refine zW ?_
    by_cases lj:j < out.length
    ·(try simp (maxSteps:=2000000) (disch:=omega) only [go_sem,simprocAttr,zD,zE,eLs])
     (refine zM [2,3,6] ?_;refine zI [none,none,none,none,none,none,none,none,none,none,some [],none] ?_)
     (try simp (maxSteps:=2000000) (disch:=omega) only [go_sem,simprocAttr,zD,zE,eLs])
     (refine zF ?_;refine callA_of (qeh out[j] (h4 _ (List.getElem_mem lj))) zB ?_)
     try refine zO ?_
     refine⟨j+1, [],lj,by omega,?_⟩
     constructor<;>((try refine zO ?_);(try with_reducible exact True.intro))
    ·obtain rfl:j=out.length:=by omega
     ((try refine zO ?_);(try with_reducible exact True.intro))
theorem qkT (h:Hs) (hg:gHs h):Pure prog 46 [lHs h,lHs h] (scb true):=by
 obtain⟨node,state,steps,inn,out⟩:=h
 obtain⟨b2,b3,b4,b5⟩:=hg
 simp only at b2 b3 b4 b5
 refine pcall0 200 (fn:=f46) func46 rfl (by simp [ntmps46]) zB zB fun hs=>?_
 have a1:=beq_self_eq_true node
 have a2:=beq_self_eq_true state
 have a3:=beq_self_eq_true steps
 (try simp (maxSteps:=2000000) (disch:=omega) only [go_sem,simprocAttr,zD,zE,a1,a2,a3])
 (refine zG ?_;refine callA_of (qdO ⟨0,0,0, [],inn,out⟩ b2 b3 (by simp) b5) zB ?_)
 ((try refine zO ?_);(try with_reducible exact True.intro))
end Go.Proofs.NO
/- Messages that are taken, in whichever order: the plain law. -/
namespace Go.Proofs.NO
open Go Go.Idl Go.Proofs Go.GP Go.Proofs.Tryz
end Go.Proofs.NO
/- The document's take of a host: its walk. -/
namespace Go.Proofs.NO
open Go Go.Idl Go.Proofs Go.GP Go.Proofs.Tryz
set_option maxHeartbeats 20000000
set_option maxRecDepth 100000
end Go.Proofs.NO
