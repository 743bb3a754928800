/- Facts that the proofs of this claim lean on. -/
import Derived.Test.YtfhhdgkhajkapaaGreatNzRn
import Derived.Test.YtfhhdgkhajkapaaGreatNzS2
import Derived.Test.YtfhhdgkhajkapaaGreatNTypes
import Derived.Test.YtfhhdgkhajkapaaGreatIdZq
import Derived.Test.YtfhhdgkhajkapaaGreatNMe
import Derived.Test.YtfhhdgkhajkapaaGreatNWk
import Derived.Test.YtfhhdgkhajkapaaGreatNxP8
import Derived.Test.YtfhhdgkhajkapaaGreatNKa
import Derived.Test.YtfhhdgkhajkapaaGreatNGb
set_option linter.unusedSimpArgs false
set_option linter.unusedVariables false
/- What hosts gave and got, and what is on the links. Plain law. -/
namespace Go.Proofs.NO
open Go Go.Idl Go.Proofs Go.GP
theorem qnH {N:Int} {ls:List (Int × Int)} (h:qcD N ls) {k:Nat} (hk:k < ls.length):0≤qi4 ls k:=by
 unfold qi4
 rw [dif_pos ⟨by omega,by rw [Int.toNat_natCast];exact hk⟩]
 have:=h.2.2.2.1 k _ (List.getElem?_eq_getElem hk)
 have h2:=(qbn (a:=ls[k].2) (b:=ls[k].1) (s:=0) (ls:=ls)).2 this.2.2.2.2
 simpa using h2
theorem Sys.gave {N:Int} {ls:List (Int × Int)} {T:List Nd} {t:Int} {c:Cf} {hs:List Hs} (s:Sys N ls T t c hs) {k:Nat} (hk:k < ls.length):
  ∃(a b:Nat) (p q:Hs) (e:Int) (l:List (Int × Int)),ls[k]? =some ((a:Int),(b:Int))∧hs[a]? =some p∧hs[b]? =some q∧c.E[k]? =some e∧c.L[k]? =some l∧
   p.out.length=(outs p.node 0 ls).length∧q.inn.length=(ins q.node 0 ls).length∧
   qeG p.out (qax k 0 (outs p.node 0 ls))=e∧qeG q.inn (qax k 0 (ins q.node 0 ls))=e - l.length∧0≤e∧e≤500∧(l.length:Int)≤e:=by
 obtain⟨a,b,o,j,p,q,h1,h2,h3,h4,h5, -⟩:=s.ends hk
 obtain⟨e,l,ov,iv,q1,q2,q3,q4,q5⟩:=s.lnk k a b o j p q h1 h2 h3 h4 h5
 have hp:=s.hst a p h2
 have hq:=s.hst b q h3
 have r:=qkn (qhl q5.hr).2 q5.mix
 rw [←q5.hl] at r
 have i1:=qbf (s:=0) qdp h4
 have i2:=qbf (s:=0) qcH h5
 have g1:=q5.he
 have g2:=q5.h5
 refine⟨a,b,p,q,e,l,h1,h2,h3,q1,q2,by rw [hp.hn];exact hp.ho,by rw [hq.hn];exact hq.hi,?_,?_,by omega,by omega,by omega⟩
 ·rw [hp.hn,i1,Nat.zero_add,qdP (qab q3)]
  rw [List.getElem?_eq_getElem (qab q3)] at q3
  rw [Option.some.inj q3];omega
 ·rw [hq.hn,i2,Nat.zero_add,qdP (qab q4)]
  rw [List.getElem?_eq_getElem (qab q4)] at q4
  rw [Option.some.inj q4];omega
end Go.Proofs.NO
/- The document's fixed calls of hosts. -/
namespace Go.Proofs.NO
open Go Go.Idl Go.Proofs
set_option maxHeartbeats 20000000
set_option maxRecDepth 100000
theorem qge:Pure Tryz.prog 18 [] (scb true):=ycallY 100000 (fun c=>c==18) (fun c=>c==227 || c==228) (by kernel_rfl)
end Go.Proofs.NO
/- A table's answers: the mode, what a letter leads to. -/
namespace Go.Proofs.NO
open Go Go.Idl Go.Proofs Go.GP
set_option maxHeartbeats 20000000
set_option maxRecDepth 100000
theorem qnF (s:Sc) (h:Hs) (x:Int) (hl:s.ls.length≤1000000) (hi:h.inn.length=(ins h.node 0 s.ls).length):Pure Tryz.prog 31 [lApp s,lHs h,sci .i64 x]
  (sci .i64 (qeG h.inn (qax x 0 (ins h.node 0 s.ls)))):=by
 obtain⟨N,ls,T,ff,room,acts⟩:=s
 obtain⟨node,state,steps,inn,out⟩:=h
 simp only at hl hi
 refine qah 200 (fn:=Tryz.f31) Tryz.func31 rfl (by simp [Tryz.ntmps31]) zB zB fun hs=>?_
 try refine zW ?_
 (refine qaf 200 ?_;refine zW ?_;refine callA_of (qd1 N node ls hl) zB ?_;((try refine zW ?_);(try with_reducible exact True.intro)))
 try refine zW ?_
 (refine qaf 200 ?_;refine zW ?_;refine callA_of (qcC _ _) zB ?_;((try refine zW ?_);(try with_reducible exact True.intro)))
 rcases indexL_at x (ins node 0 ls) with e | ⟨j,e,hj, -⟩
 ·have ez:=qib inn
  (try simp (maxSteps:=2000000) (disch:=omega) only [go_sem,simprocAttr,zD,zE,e,ez])
 ·have lj:j < inn.length:=by omega
  have ez:=qdP lj
  (try simp (maxSteps:=2000000) (disch:=omega) only [go_sem,simprocAttr,zD,zE,e,ez,eMs])
theorem qmE (s:Sc) (h:Hs) (x:Int) (hl:s.ls.length≤1000000) (hi:h.out.length=(outs h.node 0 s.ls).length):Pure Tryz.prog 30 [lApp s,lHs h,sci .i64 x]
  (sci .i64 (qeG h.out (qax x 0 (outs h.node 0 s.ls)))):=by
 obtain⟨N,ls,T,ff,room,acts⟩:=s
 obtain⟨node,state,steps,inn,out⟩:=h
 simp only at hl hi
 refine qah 200 (fn:=Tryz.f30) Tryz.func30 rfl (by simp [Tryz.ntmps30]) zB zB fun hs=>?_
 try refine zW ?_
 (refine qaf 200 ?_;refine zW ?_;refine callA_of (qcO N node ls hl) zB ?_;((try refine zW ?_);(try with_reducible exact True.intro)))
 try refine zW ?_
 (refine qaf 200 ?_;refine zW ?_;refine callA_of (qcC _ _) zB ?_;((try refine zW ?_);(try with_reducible exact True.intro)))
 rcases indexL_at x (outs node 0 ls) with e | ⟨j,e,hj, -⟩
 ·have ez:=qib out
  (try simp (maxSteps:=2000000) (disch:=omega) only [go_sem,simprocAttr,zD,zE,e,ez])
 ·have lj:j < out.length:=by omega
  have ez:=qdP lj
  (try simp (maxSteps:=2000000) (disch:=omega) only [go_sem,simprocAttr,zD,zE,e,ez,eLs])
end Go.Proofs.NO
/- The document's graph: what each of its functions answers. -/
namespace Go.Proofs.NO
open Go Go.Idl Go.Proofs Go.GP
set_option maxHeartbeats 1000000
set_option maxRecDepth 100000
theorem qkM (N:Int) (ls:List (Int × Int)) (l:Int) (hl:ls.length≤1000000):Pure Tryz.prog 32 [eG N ls,sci .i64 l] (sci .i64 (qi4 ls l)):=by
 unfold qi4
 refine qah 200 (fn:=Tryz.f32) Tryz.func32 rfl (by simp [Tryz.ntmps32]) zB zB fun hs=>?_
 try refine zW ?_
 by_cases h0:l < 0
 ·rw [dif_neg (by omega)]
  ((try refine zO ?_);(try with_reducible exact True.intro))
 ·obtain⟨l,rfl⟩:=Int.eq_ofNat_of_zero_le (show 0≤l by omega)
  by_cases h1:l < ls.length
  ·try refine zO ?_
   (refine walk_trim [1,2] trivial zL ?_;refine zW ?_;refine irun_walk (id:=3) (n:=200) [none,none,none,none,none,none,none,none,none,none,none,none,none,some [],none] qan (by kernel_rfl) ?_)
   (try simp (disch:=omega) only [go_sem,simprocAttr,zD,zE,eII])
   (refine at_dcall ?_;refine zW ?_;refine callA_of (qbX _ _ _ _ (by omega)) zB ?_;((try refine zW ?_);(try with_reducible exact True.intro)))
   try refine zO ?_
   rw [dif_pos h1]
  ·try refine zO ?_
   have: ¬(ls.length > l):=by omega
   (try simp (disch:=omega) only [go_sem,simprocAttr,zD,zE,this])
end Go.Proofs.NO
