/- Facts that the proofs of this claim lean on. -/
import Derived.Test.YteebghpjgcacmaaGreatYA
import Derived.Test.YteebghpjgcacmaaGreatGPm
import Derived.Test.YteebghpjgcacmaaGreatYS
set_option linter.unusedSimpArgs false
set_option linter.unusedVariables false
/- Which tables may be: what is asked of a state. No program in sight. -/
namespace Go.Proofs.GY
open Go Go.Idl Go.GP
noncomputable def tB (P:Prop):Bool:= @decide P (Classical.propDecidable P)
theorem qlh {P:Prop}:tB P=true↔P:= @decide_eq_true_iff P (Classical.propDecidable P)
theorem qam {P:Prop} (h:P):tB P=true:=qlh.2 h
theorem qah {P:Prop} (h: ¬P):tB P=false:=Bool.eq_false_iff.2 fun q=>h (qlh.1 q)
theorem qdg {P:Prop} [Decidable P]:tB P=decide P:=by
 by_cases h:P
 ·rw [qam h];simp [h]
 ·rw [qah h];simp [h]
theorem qli {P:Prop}:(!tB P)=tB (¬P):=by
 by_cases h:P
 ·rw [qam h,qah (fun q=>q h)];rfl
 ·rw [qah h,qam h];rfl
theorem qcU {P R:Prop} (h:P↔R):tB P=tB R:=by rw [propext h]
theorem inB_eq {a b:Int} {ls:List (Int × Int)}:decide (0≤qan a b 0 ls)=tB ((a,b)∈ls):=by
 rw [←qdg];exact qcU qaN
def LetP (n:Int):Prop:=0≤n∧n < 4
def StaP (m:Nat) (n:Int):Prop:=0≤n∧n < m
def qcg (ls:List (Int × Int)) (n:Int) (s:St):Prop:=
 (s.mode≠2∧s.waits.length=0)∨(s.mode=2∧0 < s.waits.length∧ ∀(j:Nat) (w:Int),s.waits[j]? =some w→(w,n)∈ls∧ ∀v,0 < j→s.waits[j - 1]? =some v→v < w)
def qc9 (ls:List (Int × Int)) (n:Int) (l:List (Int × Int)):Prop:= ∀(j:Nat) (x:Int × Int),l[j]? =some x→(n,x.1)∈ls∧LetP x.2
def qb3 (ls:List (Int × Int)) (n:Int) (m:Nat) (s:St):Prop:=
 s.picks.length≤4∧(s.mode=1∨s.picks.length=0)∧ ∀(j:Nat) (p:Int × List (Int × Int)),s.picks[j]? =some p→StaP m p.1∧p.2.length≤4∧qc9 ls n p.2
def Once (l:List (Int × Int × Int)) (t:Int × Int × Int):Prop:= ∀(k:Nat) (u:Int × Int × Int),l[k]? =some u→ ¬(u.1=t.1∧u.2.1=t.2.1)
def qea (ls:List (Int × Int)) (n:Int) (m:Nat) (s:St):Prop:=
 ∀(j:Nat) (t:Int × Int × Int),s.takes[j]? =some t→(t.1,n)∈ls∧LetP t.2.1∧StaP m t.2.2∧Once (s.takes.take j) t
def qjK (ss:List St) (s:St) (t:Int × Int × Int):Prop:= ∀(j:Nat) (w:Int),s.waits[j]? =some w→w≠t.1→ ∀to,ss[t.2.2.toNat]? =some to→to.mode=2∧w∈to.waits
def qdz (ss:List St) (s:St):Prop:= ∀(j:Nat) (t:Int × Int × Int),s.takes[j]? =some t→qjK ss s t
def qfa (s:St):Prop:=0≤s.mode∧s.mode < 3
def MayP (ls:List (Int × Int)) (n:Int) (ss:List St) (s:St):Prop:=qfa s∧qcg ls n s∧qb3 ls n ss.length s∧qea ls n ss.length s∧qdz ss s
def qhw (ls:List (Int × Int)) (n:Int) (x:Nd):Prop:=
 1≤x.states.length∧x.states.length≤8∧StaP x.states.length x.start∧ ∀(j:Nat) (s:St),x.states[j]? =some s→MayP ls n x.states s
def TabP (N:Int) (ls:List (Int × Int)) (T:List Nd):Prop:=qcI N ls∧(T.length:Int)=N∧ ∀(n:Nat) (x:Nd),T[n]? =some x→qhw ls n x
theorem qaC {α:Type} {l:List α} {P:Nat→α→Prop} {i:Nat} (hi:i < l.length) (h: ∀j x,j < i→l[j]? =some x→P j x) (hx:P i l[i]): ∀j x,j < i+1→l[j]? =some x→P j x:=by
 intro j x hj e
 rcases Nat.lt_or_ge j i with q | q
 ·exact h j x q e
 ·obtain rfl:j=i:=by omega
  rw [List.getElem?_eq_getElem hi] at e
  cases e;exact hx
theorem all_end {α:Type} {l:List α} {P:Nat→α→Prop} (h: ∀j x,j < l.length→l[j]? =some x→P j x): ∀j x,l[j]? =some x→P j x:=
 fun j x e=>h j x (List.getElem?_eq_some_iff.1 e).1 e
end Go.Proofs.GY
/- Tables: a state's waits, picks, and takes. -/
namespace Go.Proofs.GY
open Go Go.Idl Go.Proofs Go.GP
set_option maxHeartbeats 20000000
set_option maxRecDepth 100000
variable (s:St) (n st:Int) (ss:List St) (N:Int) (ls:List (Int × Int)) (hl:ls.length≤1000000)
theorem qg0 (a:Int):Pure Tryz.prog 143 [sci .i64 a] (scb (tB (LetP a))):=by
 have e:tB (LetP a)=(decide (0≤a) && decide (a < 4)):=by rw [←Bool.decide_and];exact qdg (P:=_∧_)
 rw [e]
 refine qaf 200 (fn:=Tryz.f143) Tryz.func143 rfl (by simp [Tryz.ntmps143]) zB zB fun hs=>?_
 try refine zW ?_
 by_cases h:0≤a
 ·(try simp (disch:=omega) only [go_sem,simprocAttr,zD,zE,h])
 ·(try simp (disch:=omega) only [go_sem,simprocAttr,zD,zE,h])
theorem qg4 (a:Int):Pure Tryz.prog 144 [.agg [sci .i64 s.mode,lI s.waits, .p (.imm 2 (pr ePk s.picks)), .p (.imm 3 (pr eIII s.takes)),sci .i64 n,sci .i64 st, .p (.imm 4 (pr eSt ss)),sci .i64 N,lII ls],sci .i64 a] (scb (tB (StaP ss.length a))):=by
 have e:tB (StaP ss.length a)=(decide (0≤a) && decide (a < ss.length)):=by rw [←Bool.decide_and];exact qdg (P:=_∧_)
 rw [e]
 refine qaf 200 (fn:=Tryz.f144) Tryz.func144 rfl (by simp [Tryz.ntmps144]) zB zB fun hs=>?_
 try refine zW ?_
 by_cases h:0≤a
 ·(try simp (disch:=omega) only [go_sem,simprocAttr,zD,zE,h])
 ·(try simp (disch:=omega) only [go_sem,simprocAttr,zD,zE,h])
include hl in
theorem qk1 (a:Int):Pure Tryz.prog 141 [.agg [sci .i64 s.mode,lI s.waits, .p (.imm 2 (pr ePk s.picks)), .p (.imm 3 (pr eIII s.takes)),sci .i64 n,sci .i64 st, .p (.imm 4 (pr eSt ss)),sci .i64 N,lII ls],sci .i64 a] (scb (tB ((a,n)∈ls))):=by
 refine qaf 200 (fn:=Tryz.f141) Tryz.func141 rfl (by simp [Tryz.ntmps141]) zB zB fun hs=>?_
 try refine zW ?_
 (refine qac 200 ?_;refine zW ?_;refine callA_of (qcW _ _ _ _ hl) zB ?_;((try refine zW ?_);(try with_reducible exact True.intro)))
 (try simp only [go_sem,simprocAttr,inB_eq])
theorem qof:Pure Tryz.prog 124 [.p (.rp [.sc (.int .i64 s.mode), .imm 1 (pr eI s.waits), .imm 2 (pr ePk s.picks), .imm 3 (pr eIII s.takes), .sc (.int .i64 n), .sc (.int .i64 st), .imm 4 (pr eSt ss), .sc (.int .i64 N), .imm 2 (pr eII ls)])] (scb (tB (qfa s))):=by
 have e:tB (qfa s)=(decide (0≤s.mode) && decide (s.mode < 3)):=by rw [←Bool.decide_and];exact qdg (P:=_∧_)
 rw [e]
 refine qaf 200 (fn:=Tryz.f124) Tryz.func124 rfl (by simp [Tryz.ntmps124]) zB zB fun hs=>?_
 try refine zW ?_
 by_cases h:0≤s.mode
 ·(try simp (disch:=omega) only [go_sem,simprocAttr,zD,zE,h])
 ·(try simp (disch:=omega) only [go_sem,simprocAttr,zD,zE,h])
include hl in
theorem qoM (x:Int × Int):Pure Tryz.prog 142 [.agg [sci .i64 x.1,sci .i64 x.2], .p (.rp [.sc (.int .i64 s.mode), .imm 1 (pr eI s.waits), .imm 2 (pr ePk s.picks), .imm 3 (pr eIII s.takes), .sc (.int .i64 n), .sc (.int .i64 st), .imm 4 (pr eSt ss), .sc (.int .i64 N), .imm 2 (pr eII ls)])] (scb (!tB ((n,x.1)∈ls∧LetP x.2))):=by
 refine qaf 200 (fn:=Tryz.f142) Tryz.func142 rfl (by simp [Tryz.ntmps142]) zB zB fun hs=>?_
 try refine zW ?_
 (refine qac 200 ?_;refine zW ?_;refine callA_of (qcW _ _ _ _ hl) zB ?_;((try refine zW ?_);(try with_reducible exact True.intro)))
 by_cases h:(n,x.1)∈ls
 ·have e:0≤qan n x.1 0 ls:=qaN.2 h
  (try simp (disch:=omega) only [go_sem,simprocAttr,zD,zE,e])
  (refine qac 200 ?_;refine zW ?_;refine callA_of (qg0 x.2) zB ?_;((try refine zW ?_);(try with_reducible exact True.intro)))
  have e2:tB ((n,x.1)∈ls∧LetP x.2)=tB (LetP x.2):=qcU ⟨fun q=>q.2,fun q=>⟨h,q⟩⟩
  (try simp (disch:=omega) only [go_sem,simprocAttr,zD,zE,e2])
 ·have e: ¬0≤qan n x.1 0 ls:=fun q=>h (qaN.1 q)
  have e2:tB ((n,x.1)∈ls∧LetP x.2)=false:=qah fun q=>h q.1
  (try simp (disch:=omega) only [go_sem,simprocAttr,zD,zE,e,e2])
theorem qnz (x t:Int × Int × Int):Pure Tryz.prog 146 [.agg [sci .i64 x.1,sci .i64 x.2.1,sci .i64 x.2.2], .p (.rp [.sc (.int .i64 t.1), .sc (.int .i64 t.2.1), .sc (.int .i64 t.2.2)])] (scb (tB (x.1=t.1∧x.2.1=t.2.1))):=by
 generalize e0:tB (x.1=t.1∧x.2.1=t.2.1)=r
 refine qaf 200 (fn:=Tryz.f146) Tryz.func146 rfl (by simp [Tryz.ntmps146]) zB zB fun hs=>?_
 try refine zW ?_
 by_cases h1:x.1=t.1
 ·by_cases h2:x.2.1=t.2.1
  ·have e:r=true:=by rw [←e0];exact qam ⟨h1,h2⟩
   (try simp (disch:=omega) only [go_sem,simprocAttr,zD,zE,h1,h2,e])
  ·have e:r=false:=by rw [←e0];exact qah fun q=>h2 q.2
   (try simp (disch:=omega) only [go_sem,simprocAttr,zD,zE,h1,h2,e])
 ·have e:r=false:=by rw [←e0];exact qah fun q=>h1 q.1
  (try simp (disch:=omega) only [go_sem,simprocAttr,zD,zE,h1,e])
end Go.Proofs.GY
/- Tables: what a state waits for, picks, and takes. -/
namespace Go.Proofs.GY
open Go Go.Idl Go.Proofs Go.GP
set_option maxHeartbeats 20000000
set_option maxRecDepth 100000
def qa8 {α:Type} (f:α→Bool):Nat→List α→Int
 | _, []=> -1
 | i,x::r=>if f x=true then i else qa8 f (i+1) r
theorem qdP {α:Type} {f:α→Bool}: ∀ {l:List α} {i:Nat},0≤qa8 f i l↔ ∃x∈l,f x=true
 | [],i=>by simp [qa8]
 | x::r,i=>by
   unfold qa8
   split
   ·rename_i e;simp [e]
   ·rename_i e;rw [qdP];simp [e]
variable (s:St) (n st:Int) (ss:List St) (N:Int) (ls:List (Int × Int)) (hl:ls.length≤1000000)
include hl in
theorem qjB (l:List (Int × Int)) (hk:l.length≤1000000):Pure Tryz.prog 152 [lII l, .clo (.func 142) [] [.p (.rp [.sc (.int .i64 s.mode), .imm 1 (pr eI s.waits), .imm 2 (pr ePk s.picks), .imm 3 (pr eIII s.takes), .sc (.int .i64 n), .sc (.int .i64 st), .imm 4 (pr eSt ss), .sc (.int .i64 N), .imm 2 (pr eII ls)])]]
  (sci .i64 (qa8 (fun x=>!tB ((n,x.1)∈ls∧LetP x.2)) 0 l)):=by
 refine qaf 200 (fn:=Tryz.f152) Tryz.func152 rfl (by simp [Tryz.ntmps152]) zB zB fun hs=>?_
 try refine zW ?_
 refine qad 200 200 (fun i:Nat=>i≤l.length∧qa8 (fun x=>!tB ((n,x.1)∈ls∧LetP x.2)) i (l.drop i)=qa8 (fun x=>!tB ((n,x.1)∈ls∧LetP x.2)) 0 l)
  (fun i=>⟨19, [(0,lII l),(1, .clo (.func 142) [] [.p (.rp [.sc (.int .i64 s.mode), .imm 1 (pr eI s.waits), .imm 2 (pr ePk s.picks), .imm 3 (pr eIII s.takes), .sc (.int .i64 n), .sc (.int .i64 st), .imm 4 (pr eSt ss), .sc (.int .i64 N), .imm 2 (pr eII ls)])]),(7,sci .i64 l.length),(8,sci .i64 i)], [],0, []⟩) (fun i=>l.length - i) (0) [] ?_ ?_ ?_
 ·simp
 ·constructor<;>(try simp (disch:=omega) only [go_sem,simprocAttr,zD,zE,Int.natCast_zero,List.take_of_length_le,List.append_assoc])
 ·rintro i hi
  obtain⟨hi,hinvi⟩:=hi
  try refine zW ?_
  by_cases li:i < l.length
  ·rw [qbl li,qa8] at hinvi
   (try simp (disch:=omega) only [go_sem,simprocAttr,zD,zE,eII])
   (refine qac 200 ?_;refine zW ?_;refine callA_of (qoM s n st ss N ls hl l[i]) zB ?_;((try refine zW ?_);(try with_reducible exact True.intro)))
   cases e:tB ((n,l[i].1)∈ls∧LetP l[i].2)
   ·simp only [e,Bool.not_false,if_true] at hinvi
    (try simp (disch:=omega) only [go_sem,simprocAttr,zD,zE,←hinvi])
   ·simp only [e,Bool.not_true,Bool.false_eq_true,if_false] at hinvi
    try refine zO ?_
    refine⟨i+1, [],⟨by first | assumption | omega,hinvi⟩,?_,?_⟩
    ·(try simp only []);omega
    ·constructor<;>(try simp (disch:=omega) only [go_sem,simprocAttr,zD,zE,List.append_assoc])
  ·obtain rfl:i=l.length:=by omega
   rw [List.drop_length] at hinvi
   (try simp (disch:=omega) only [go_sem,simprocAttr,zD,zE,←hinvi,qa8])
include hl in
theorem qjz (l:List (Int × Int)) (hk:l.length≤1000000):Pure Tryz.prog 145 [lII l, .clo (.func 142) [] [.p (.rp [.sc (.int .i64 s.mode), .imm 1 (pr eI s.waits), .imm 2 (pr ePk s.picks), .imm 3 (pr eIII s.takes), .sc (.int .i64 n), .sc (.int .i64 st), .imm 4 (pr eSt ss), .sc (.int .i64 N), .imm 2 (pr eII ls)])]]
  (scb (!tB (qc9 ls n l))):=by
 have e:decide (0≤qa8 (fun x=>!tB ((n,x.1)∈ls∧LetP x.2)) 0 l)= !tB (qc9 ls n l):=by
  rw [qli,←qdg]
  refine qcU ?_
  rw [qdP]
  constructor
  ·rintro⟨x,hx,h⟩ q
   obtain⟨j,hj,rfl⟩:=List.getElem_of_mem hx
   have:=q j _ (List.getElem?_eq_getElem hj)
   rw [qam this] at h;cases h
  ·intro h
   refine Classical.byContradiction fun q=>h fun j x hx=>?_
   have hm:x∈l:=List.mem_of_getElem? hx
   refine Classical.byContradiction fun q2=>q ⟨x,hm,?_⟩
   rw [qah q2];rfl
 refine qaf 200 (fn:=Tryz.f145) Tryz.func145 rfl (by simp [Tryz.ntmps145]) zB zB fun hs=>?_
 try refine zW ?_
 (refine qac 200 ?_;refine zW ?_;refine callA_of (qjB s n st ss N ls hl l hk) zB ?_;((try refine zW ?_);(try with_reducible exact True.intro)))
 (try simp only [go_sem,simprocAttr,e])
theorem qjC (l:List (Int × Int × Int)) (t:Int × Int × Int) (hk:l.length≤1000000):Pure Tryz.prog 153
  [.p (.imm 3 (pr eIII l)), .clo (.func 146) [] [.p (.rp [.sc (.int .i64 t.1), .sc (.int .i64 t.2.1), .sc (.int .i64 t.2.2)])]]
  (sci .i64 (qa8 (fun x=>tB (x.1=t.1∧x.2.1=t.2.1)) 0 l)):=by
 refine qaf 200 (fn:=Tryz.f153) Tryz.func153 rfl (by simp [Tryz.ntmps153]) zB zB fun hs=>?_
 try refine zW ?_
 refine qad 200 200 (fun i:Nat=>i≤l.length∧qa8 (fun x=>tB (x.1=t.1∧x.2.1=t.2.1)) i (l.drop i)=qa8 (fun x=>tB (x.1=t.1∧x.2.1=t.2.1)) 0 l)
  (fun i=>⟨19, [(0, .p (.imm 3 (pr eIII l))),(1, .clo (.func 146) [] [.p (.rp [.sc (.int .i64 t.1), .sc (.int .i64 t.2.1), .sc (.int .i64 t.2.2)])]),(7,sci .i64 l.length),(8,sci .i64 i)], [],0, []⟩) (fun i=>l.length - i) (0) [] ?_ ?_ ?_
 ·simp
 ·constructor<;>(try simp (disch:=omega) only [go_sem,simprocAttr,zD,zE,Int.natCast_zero,List.take_of_length_le,List.append_assoc])
 ·rintro i hi
  obtain⟨hi,hinvi⟩:=hi
  try refine zW ?_
  by_cases li:i < l.length
  ·rw [qbl li,qa8] at hinvi
   (try simp (disch:=omega) only [go_sem,simprocAttr,zD,zE,eIII])
   (refine qac 200 ?_;refine zW ?_;refine callA_of (qnz l[i] t) zB ?_;((try refine zW ?_);(try with_reducible exact True.intro)))
   cases e:tB (l[i].1=t.1∧l[i].2.1=t.2.1)
   ·simp only [e,Bool.not_true,Bool.false_eq_true,if_false] at hinvi
    try refine zO ?_
    refine⟨i+1, [],⟨by first | assumption | omega,hinvi⟩,?_,?_⟩
    ·(try simp only []);omega
    ·constructor<;>(try simp (disch:=omega) only [go_sem,simprocAttr,zD,zE,List.append_assoc])
   ·simp only [e,Bool.not_false,if_true] at hinvi
    (try simp (disch:=omega) only [go_sem,simprocAttr,zD,zE,←hinvi])
  ·obtain rfl:i=l.length:=by omega
   rw [List.drop_length] at hinvi
   (try simp (disch:=omega) only [go_sem,simprocAttr,zD,zE,←hinvi,qa8])
theorem qjA (l:List (Int × Int × Int)) (t:Int × Int × Int) (hk:l.length≤1000000):Pure Tryz.prog 147
  [.p (.imm 3 (pr eIII l)), .clo (.func 146) [] [.p (.rp [.sc (.int .i64 t.1), .sc (.int .i64 t.2.1), .sc (.int .i64 t.2.2)])]] (scb (!tB (Once l t))):=by
 have e:decide (0≤qa8 (fun x:Int × Int × Int=>tB (x.1=t.1∧x.2.1=t.2.1)) 0 l)= !tB (Once l t):=by
  rw [qli,←qdg]
  refine qcU ?_
  rw [qdP]
  constructor
  ·rintro⟨x,hx,h⟩ q
   obtain⟨j,hj,rfl⟩:=List.getElem_of_mem hx
   exact q j _ (List.getElem?_eq_getElem hj) (qlh.1 h)
  ·intro h
   refine Classical.byContradiction fun q=>h fun j x hx q2=>q ⟨x,List.mem_of_getElem? hx,qam q2⟩
 refine qaf 200 (fn:=Tryz.f147) Tryz.func147 rfl (by simp [Tryz.ntmps147]) zB zB fun hs=>?_
 try refine zW ?_
 (refine qac 200 ?_;refine zW ?_;refine callA_of (qjC l t hk) zB ?_;((try refine zW ?_);(try with_reducible exact True.intro)))
 (try simp only [go_sem,simprocAttr,e])
include hl in
theorem qnB (hw:s.waits.length≤1000000):Pure Tryz.prog 125 [.agg [sci .i64 s.mode,lI s.waits, .p (.imm 2 (pr ePk s.picks)), .p (.imm 3 (pr eIII s.takes)),sci .i64 n,sci .i64 st, .p (.imm 4 (pr eSt ss)),sci .i64 N,lII ls]] (scb (tB (qcg ls n s))):=by
 refine qaf 200 (fn:=Tryz.f125) Tryz.func125 rfl (by simp [Tryz.ntmps125]) zB zB fun hs=>?_
 try refine zW ?_
 by_cases hm:s.mode=2
 ·(try simp (disch:=omega) only [go_sem,simprocAttr,zD,zE,hm])
  (refine walk_trim [1,16,17,18] trivial zL ?_;((try refine zW ?_);(try with_reducible exact True.intro)))
  refine qad 200 200 (fun i:Nat=>i≤s.waits.length∧ ∀(j:Nat) (w:Int),j < i→s.waits[j]? =some w→(w,n)∈ls∧ ∀v,0 < j→s.waits[j - 1]? =some v→v < w)
   (fun i=>⟨48, [(1, .ptr 0 0 0 0),(16,lI s.waits),(17,sci .i64 s.waits.length),(18,sci .i64 i)], [],1, [(0, .arr 9 0 [[sci .i64 s.mode,lI s.waits, .p (.imm 2 (pr ePk s.picks)), .p (.imm 3 (pr eIII s.takes)),sci .i64 n,sci .i64 st, .p (.imm 4 (pr eSt ss)),sci .i64 N,lII ls]])]⟩) (fun i=>s.waits.length - i) (0) [] ?_ ?_ ?_
  ·simp
  ·constructor<;>(try simp (disch:=omega) only [go_sem,simprocAttr,zD,zE,Int.natCast_zero,List.take_of_length_le,List.append_assoc,hm])
  ·rintro i hi
   obtain⟨hi,hinvi⟩:=hi
   try refine zW ?_
   by_cases li:i < s.waits.length
   ·have bad: ¬((s.waits[i],n)∈ls∧ ∀v,0 < i→s.waits[i - 1]? =some v→v < s.waits[i])→tB (qcg ls n s)=false:=fun q=>qah fun h=>by
     rcases h with h | h
     ·exact h.1 hm
     ·exact q (h.2.2 i _ (List.getElem?_eq_getElem li))
    (try simp (disch:=omega) only [go_sem,simprocAttr,zD,zE,eI])
    (refine qac 200 ?_;refine zW ?_;refine callA_of (qk1 s n st ss N ls hl s.waits[i]) zB ?_;((try refine zW ?_);(try with_reducible exact True.intro)))
    by_cases h1:(s.waits[i],n)∈ls
    ·have e1:=qam h1
     by_cases h0:0 < i
     ·have hi1:i - 1 < s.waits.length:=by omega
      have ec:(i:Int) - 1=((i - 1:Nat):Int):=by omega
      have g1:(pr eI s.waits)[i - 1]? =some [.sc (.int .i64 s.waits[i - 1])]:=by rw [qel hi1];rfl
      by_cases h2:s.waits[i - 1] < s.waits[i]
      ·have h2': ¬s.waits[i]≤s.waits[i - 1]:=by omega
       (try simp (disch:=omega) only [go_sem,simprocAttr,zD,zE,e1,h0,ec,g1,h2'])
       refine⟨i+1, [],⟨li,qaC li hinvi ⟨h1,fun v _ hv=>?_⟩⟩,by omega,?_⟩
       ·rw [List.getElem?_eq_getElem hi1] at hv;cases hv;exact h2
       ·constructor<;>((try refine zO ?_);(try with_reducible exact True.intro))
      ·have h2':s.waits[i]≤s.waits[i - 1]:=by omega
       have e2:=bad fun q=>h2 (q.2 _ h0 (List.getElem?_eq_getElem hi1))
       (try simp (disch:=omega) only [go_sem,simprocAttr,zD,zE,e1,h0,ec,g1,h2',e2])
     ·(try simp (disch:=omega) only [go_sem,simprocAttr,zD,zE,e1,h0])
      refine⟨i+1, [],⟨li,qaC li hinvi ⟨h1,fun v q=>absurd q h0⟩⟩,by omega,?_⟩
      constructor<;>((try refine zO ?_);(try with_reducible exact True.intro))
    ·have e1:=qah h1
     have e2:=bad fun q=>h1 q.1
     (try simp (disch:=omega) only [go_sem,simprocAttr,zD,zE,e1,e2])
   ·obtain rfl:i=s.waits.length:=by omega
    have hall:=all_end hinvi
    by_cases h0:0 < s.waits.length
    ·have e:tB (qcg ls n s)=true:=qam (.inr ⟨hm,h0,hall⟩)
     (try simp (disch:=omega) only [go_sem,simprocAttr,zD,zE,e,h0])
    ·have e:tB (qcg ls n s)=false:=qah fun h=>by
      rcases h with h | h
      ·exact h.1 hm
      ·exact h0 h.2.1
     (try simp (disch:=omega) only [go_sem,simprocAttr,zD,zE,e,h0])
 ·have e:tB (qcg ls n s)=decide (s.waits.length=0):=by
   rw [←qdg]
   exact qcU ⟨fun h=>by rcases h with h | h;exact h.2;exact absurd h.1 hm,fun h=> .inl ⟨hm,h⟩⟩
  by_cases h0:s.waits.length=0
  ·have h0':(s.waits.length:Int)=0:=by omega
   (try simp (disch:=omega) only [go_sem,simprocAttr,zD,zE,hm,e,h0,h0'])
  ·have h0': ¬(s.waits.length:Int)=0:=by omega
   (try simp (disch:=omega) only [go_sem,simprocAttr,zD,zE,hm,e,h0,h0'])
end Go.Proofs.GY
