/- Facts that the proofs of this claim lean on. -/
import Derived.Test.YtfhhdgkhajkapaaGreatNKa
import Derived.Test.YtfhhdgkhajkapaaGreatGPm
import Derived.Test.YtfhhdgkhajkapaaGreatNS
set_option linter.unusedSimpArgs false
set_option linter.unusedVariables false
/- Which tables may be: what is asked of a state. No program in sight. -/
namespace Go.Proofs.NO
open Go Go.Idl Go.GP
noncomputable def tB (P:Prop):Bool:= @decide P (Classical.propDecidable P)
theorem qny {P:Prop}:tB P=true↔P:= @decide_eq_true_iff P (Classical.propDecidable P)
theorem qa6 {P:Prop} (h:P):tB P=true:=qny.2 h
theorem qaU {P:Prop} (h: ¬P):tB P=false:=Bool.eq_false_iff.2 fun q=>h (qny.1 q)
def LetP (n:Int):Prop:=0≤n∧n < 4
def StaP (m:Nat) (n:Int):Prop:=0≤n∧n < m
def qeU (ls:List (Int × Int)) (n:Int) (s:St):Prop:=
 (s.mode≠2∧s.waits.length=0)∨(s.mode=2∧0 < s.waits.length∧ ∀(j:Nat) (w:Int),s.waits[j]? =some w→(w,n)∈ls∧ ∀v,0 < j→s.waits[j - 1]? =some v→v < w)
def qjC (ls:List (Int × Int)) (n:Int) (l:List (Int × Int)):Prop:= ∀(j:Nat) (x:Int × Int),l[j]? =some x→(n,x.1)∈ls∧LetP x.2
def qeR (ls:List (Int × Int)) (n:Int) (m:Nat) (s:St):Prop:=
 s.picks.length≤4∧(s.mode=1∨s.picks.length=0)∧ ∀(j:Nat) (p:Int × List (Int × Int)),s.picks[j]? =some p→StaP m p.1∧p.2.length≤4∧qjC ls n p.2
def Once (l:List (Int × Int × Int)) (t:Int × Int × Int):Prop:= ∀(k:Nat) (u:Int × Int × Int),l[k]? =some u→ ¬(u.1=t.1∧u.2.1=t.2.1)
def qmL (ls:List (Int × Int)) (n:Int) (m:Nat) (s:St):Prop:=
 ∀(j:Nat) (t:Int × Int × Int),s.takes[j]? =some t→(t.1,n)∈ls∧LetP t.2.1∧StaP m t.2.2∧Once (s.takes.take j) t
def KeptP (ss:List St) (s:St) (t:Int × Int × Int):Prop:= ∀(j:Nat) (w:Int),s.waits[j]? =some w→w≠t.1→ ∀to,ss[t.2.2.toNat]? =some to→to.mode=2∧w∈to.waits
def qmJ (ss:List St) (s:St):Prop:= ∀(j:Nat) (t:Int × Int × Int),s.takes[j]? =some t→KeptP ss s t
def qlV (s:St):Prop:=0≤s.mode∧s.mode < 3
def MayP (ls:List (Int × Int)) (n:Int) (ss:List St) (s:St):Prop:=qlV s∧qeU ls n s∧qeR ls n ss.length s∧qmL ls n ss.length s∧qmJ ss s
def qlW (ls:List (Int × Int)) (n:Int) (x:Nd):Prop:=
 1≤x.states.length∧x.states.length≤8∧StaP x.states.length x.start∧ ∀(j:Nat) (s:St),x.states[j]? =some s→MayP ls n x.states s
def TabP (N:Int) (ls:List (Int × Int)) (T:List Nd):Prop:=qcD N ls∧(T.length:Int)=N∧ ∀(n:Nat) (x:Nd),T[n]? =some x→qlW ls n x
theorem qbb {α:Type} {l:List α} {P:Nat→α→Prop} {i:Nat} (hi:i < l.length) (h: ∀j x,j < i→l[j]? =some x→P j x) (hx:P i l[i]): ∀j x,j < i+1→l[j]? =some x→P j x:=by
 intro j x hj e
 rcases Nat.lt_or_ge j i with q | q
 ·exact h j x q e
 ·obtain rfl:j=i:=by omega
  rw [List.getElem?_eq_getElem hi] at e
  cases e;exact hx
theorem all_end {α:Type} {l:List α} {P:Nat→α→Prop} (h: ∀j x,j < l.length→l[j]? =some x→P j x): ∀j x,l[j]? =some x→P j x:=
 fun j x e=>h j x (List.getElem?_eq_some_iff.1 e).1 e
end Go.Proofs.NO
/- Tables: a state's waits, picks, and takes. -/
namespace Go.Proofs.NO
open Go Go.Idl Go.Proofs Go.GP
set_option maxHeartbeats 20000000
set_option maxRecDepth 100000
variable (s:St) (n st:Int) (ss:List St) (N:Int) (ls:List (Int × Int)) (hl:ls.length≤1000000)
end Go.Proofs.NO
/- Tables: what a state waits for, picks, and takes. -/
namespace Go.Proofs.NO
open Go Go.Idl Go.Proofs Go.GP
set_option maxHeartbeats 20000000
set_option maxRecDepth 100000
variable (s:St) (n st:Int) (ss:List St) (N:Int) (ls:List (Int × Int)) (hl:ls.length≤1000000)
end Go.Proofs.NO
