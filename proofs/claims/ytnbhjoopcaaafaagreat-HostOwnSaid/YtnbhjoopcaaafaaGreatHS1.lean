/- A table's answers: the mode, what a letter leads to. -/
import Derived.Test.YtnbhjoopcaaafaaGreatHX
import Derived.Test.YtnbhjoopcaaafaaGreatHP8
set_option linter.unusedSimpArgs false
set_option linter.unusedVariables false
namespace Go.Proofs.HO
open Go Go.Idl Go.Proofs Go.GP
set_option maxHeartbeats 20000000
set_option maxRecDepth 100000
def takenL (f a d:Int):List (Int × Int × Int)→Int
 | []=>d
 | t::r=>if t.1=f∧t.2.1=a then t.2.2 else takenL f a d r
theorem at_spec (T:List Nd) (n k:Nat) (x:Nd) (s:St) (hx:T[n]? =some x) (hq:x.states[k]? =some s):
  Pure Tryz.prog 93 [.p (.imm 2 (pr eNd T)),sci .i64 n,sci .i64 k] (.tup [lSt s,scb true]):=by
 obtain⟨ln,ex⟩:=List.getElem?_eq_some_iff.1 hx
 obtain⟨st,ss⟩:=x
 obtain⟨lk,es⟩:=List.getElem?_eq_some_iff.1 hq
 simp only at lk es
 refine pcall0 200 (fn:=Tryz.f93) Tryz.func93 rfl (by simp [Tryz.ntmps93]) zB zB fun hs=>?_
 simp (maxSteps:=2000000) only [go_sem,simprocAttr,maxLen] at hs
 ((try refine zW ?_);(try with_reducible exact True.intro))
 (try simp (maxSteps:=2000000) (disch:=omega) only [go_sem,simprocAttr,zD,zE,eNd,ex,eSt,es])
theorem Mode_spec (T:List Nd) (n k:Nat) (x:Nd) (s:St) (hx:T[n]? =some x) (hq:x.states[k]? =some s):
  Pure Tryz.prog 60 [.p (.imm 2 (pr eNd T)),sci .i64 n,sci .i64 k] (sci .i64 s.mode):=by
 refine pcall0 200 (fn:=Tryz.f60) Tryz.func60 rfl (by simp [Tryz.ntmps60]) zB zB fun hs=>?_
 ((try refine zW ?_);(try with_reducible exact True.intro))
 (refine at_call 200 ?_;(refine zW ?_;try with_reducible exact True.intro);refine callA_of (at_spec T n k x s hx hq) zB ?_;((try refine zW ?_);(try with_reducible exact True.intro)))
 ((try refine zO ?_);(try with_reducible exact True.intro))
theorem Taken_spec (T:List Nd) (n k:Nat) (x:Nd) (s:St) (hx:T[n]? =some x) (hq:x.states[k]? =some s) (f a:Int) (hk:s.takes.length≤1000000):
  Pure Tryz.prog 74 [.p (.imm 2 (pr eNd T)),sci .i64 n,sci .i64 k,sci .i64 f,sci .i64 a] (sci .i64 (takenL f a k s.takes)):=by
 refine pcall0 200 (fn:=Tryz.f74) Tryz.func74 rfl (by simp [Tryz.ntmps74]) zB zB fun hs=>?_
 ((try refine zW ?_);(try with_reducible exact True.intro))
 (refine at_call 200 ?_;(refine zW ?_;try with_reducible exact True.intro);refine callA_of (at_spec T n k x s hx hq) zB ?_;((try refine zW ?_);(try with_reducible exact True.intro)))
 ((try refine zO ?_);(try with_reducible exact True.intro))
 (refine walk_trim [2,3,4,23,24,25] trivial zL ?_;((try refine zW ?_);(try with_reducible exact True.intro)))
 refine walk_floop 200 200 (fun i:Nat=>i≤s.takes.length∧takenL f a k (s.takes.drop i)=takenL f a k s.takes)
  (fun i=>⟨43, [(2,sci .i64 k),(3,sci .i64 f),(4,sci .i64 a),(23, .p (.imm 3 (pr eIII s.takes))),(24,sci .i64 s.takes.length),(25,sci .i64 i)], [],1, []⟩) (fun i=>s.takes.length - i) (0) [] ?_ ?_ ?_
 ·simp
 ·constructor<;>(try simp (disch:=omega) only [go_sem,simprocAttr,zD,zE,Int.natCast_zero,List.take_of_length_le,List.append_assoc])
 ·rintro i hi
  obtain⟨hi,hinvi⟩:=hi
  ((try refine zW ?_);(try with_reducible exact True.intro))
  by_cases li:i < s.takes.length
  ·rw [drop_cons li,takenL] at hinvi
   (try simp (disch:=omega) only [go_sem,simprocAttr,zD,zE,eIII])
   generalize s.takes[i]=t at *
   obtain⟨t1,t2,t3⟩:=t
   simp only at hinvi
   by_cases h1:t1=f
   ·by_cases h2:t2=a
    ·rw [if_pos ⟨h1,h2⟩] at hinvi
     (try simp (disch:=omega) only [go_sem,simprocAttr,zD,zE,h1,h2,←hinvi])
    ·rw [if_neg fun q=>h2 q.2] at hinvi
     (try simp (disch:=omega) only [go_sem,simprocAttr,zD,zE,h1,h2])
     refine⟨i+1, [],⟨li,hinvi⟩,by omega,?_⟩
     constructor<;>((try refine zO ?_);(try with_reducible exact True.intro))
   ·rw [if_neg fun q=>h1 q.1] at hinvi
    (try simp (disch:=omega) only [go_sem,simprocAttr,zD,zE,h1])
    refine⟨i+1, [],⟨li,hinvi⟩,by omega,?_⟩
    constructor<;>((try refine zO ?_);(try with_reducible exact True.intro))
  ·obtain rfl:i=s.takes.length:=by omega
   rw [List.drop_length,takenL] at hinvi
   (try simp (disch:=omega) only [go_sem,simprocAttr,zD,zE,←hinvi])
theorem indexL_at' (a:Int): ∀(l:List Int) (i:Nat),indexL a i l= -1∨ ∃j:Nat,indexL a i l=((i+j:Nat):Int)∧j < l.length∧l[j]? =some a
 | [],i=> .inl rfl
 | x::r,i=>by
   unfold indexL
   split
   ·rename_i e;exact .inr ⟨0,rfl,by simp,by simp [e]⟩
   ·rcases indexL_at' a r (i+1) with e | ⟨j,e,hj,h⟩
    ·exact .inl e
    ·exact .inr ⟨j+1,by rw [e];congr 1;omega,by simpa using hj,by simpa using h⟩
theorem indexL_at (a:Int) (l:List Int):indexL a 0 l= -1∨ ∃j:Nat,indexL a 0 l=(j:Int)∧j < l.length∧l[j]? =some a:=by
 rcases indexL_at' a l 0 with e | ⟨j,e,h⟩
 ·exact .inl e
 ·exact .inr ⟨j,by rw [e,Nat.zero_add],h⟩
end Go.Proofs.HO
