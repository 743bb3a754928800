/- Facts that the proofs of this claim lean on. -/
import Derived.Test.YtfhhdgkhajkapaaGreatNWb
import Derived.Test.YtfhhdgkhajkapaaGreatIdCn
import Derived.Test.YtfhhdgkhajkapaaGreatNMc
import Derived.Test.YtfhhdgkhajkapaaGreatIdGr
set_option linter.unusedSimpArgs false
set_option linter.unusedVariables false
/- What is built of pieces that are not whole. -/
namespace Go.Proofs.NO
open Go Go.Idl Go.Proofs Go.GP
set_option maxHeartbeats 20000000
set_option maxRecDepth 100000
theorem qll {n:Int}: ∀ {ls:List (Int × Int)} {i j:Nat} (hj:j < ls.length),ls[j].2=n→((i+j:Nat):Int)∈ins n i ls
 | x::r,i,0,_,e=>by
   have e:x.2=n:=e
   unfold ins
   rw [if_pos e]
   exact List.mem_cons_self ..
 | x::r,i,j+1,hj,e=>by
   have:=qll (ls:=r) (i:=i+1) (j:=j) (by simpa using hj) (by simpa using e)
   unfold ins
   rw [show i+(j+1)=i+1+j by omega]
   split
   ·exact List.mem_cons_of_mem _ this
   ·exact this
theorem indexL_at' (a:Int): ∀(l:List Int) (i:Nat),qax a i l= -1∨ ∃j:Nat,qax a i l=((i+j:Nat):Int)∧j < l.length∧l[j]? =some a
 | [],i=> .inl rfl
 | x::r,i=>by
   unfold qax
   split
   ·rename_i e;exact .inr ⟨0,rfl,by simp,by simp [e]⟩
   ·rcases indexL_at' a r (i+1) with e | ⟨j,e,hj,h⟩
    ·exact .inl e
    ·exact .inr ⟨j+1,by rw [e];congr 1;omega,by simpa using hj,by simpa using h⟩
theorem qfg {a:Int} {l:List Int} (h:a∈l): ∃j:Nat,qax a 0 l=(j:Int)∧j < l.length∧l[j]? =some a:=by
 have h0:=qeE (i:=0).2 h
 rcases indexL_at' a l 0 with e | ⟨j,e,h2⟩
 ·omega
 ·exact⟨j,by rw [e,Nat.zero_add],h2⟩
def zPc:Pc:=⟨0,0,0, [], [], []⟩
def lkA (ls:List (Int × Int)) (i:Nat):Int × Int:=(ls[i]?).getD (0,0)
def lkP (ls:List (Int × Int)) (l:List Pc) (i:Nat):Pc:=(l[(lkA ls i).1.toNat]?).getD zPc
def lkQ (ls:List (Int × Int)) (l:List Pc) (i:Nat):Pc:=(l[(lkA ls i).2.toNat]?).getD zPc
def lkO (ls:List (Int × Int)) (i:Nat):Nat:=(qax (i:Int) 0 (outs (lkA ls i).1 0 ls)).toNat
def lkJ (ls:List (Int × Int)) (i:Nat):Nat:=(qax (i:Int) 0 (ins (lkA ls i).2 0 ls)).toNat
def lkE (ls:List (Int × Int)) (l:List Pc) (i:Nat):Int:=((lkP ls l i).sent[lkO ls i]?).getD 0
def lkS (ls:List (Int × Int)) (l:List Pc) (i:Nat):List Int:=((lkP ls l i).out[lkO ls i]?).getD []
def lkG (ls:List (Int × Int)) (l:List Pc) (i:Nat):List (Int × Int):=((lkQ ls l i).inn[lkJ ls i]?).getD []
def LkOk (ls:List (Int × Int)) (l:List Pc) (i:Nat):Prop:=lkO ls i < (lkP ls l i).out.length∧((lkS ls l i).length:Int)=lkE ls l i∧ ¬MixP (lkS ls l i) (lkG ls l i)
def lkM (ls:List (Int × Int)) (l:List Pc) (logs:Bool) (i:Nat):List (Int × Int):=if logs then qbK (lkS ls l i) (lkG ls l i) else lkG ls l i
structure LkF (ls:List (Int × Int)) (l:List Pc) (i a b o j:Nat) (p q:Pc):Prop where
 hx:ls[i]? =some ((a:Int),(b:Int))
 ha:l[a]? =some p
 hb:l[b]? =some q
 hp:p.node=a
 hq:q.node=b
 ho:qax (i:Int) 0 (outs (a:Int) 0 ls)=(o:Int)
 hol:o < p.sent.length
 hj:qax (i:Int) 0 (ins (b:Int) 0 ls)=(j:Int)
 hjl:j < q.inn.length
 hoo:(outs (a:Int) 0 ls)[o]? =some (i:Int)
 hjj:(ins (b:Int) 0 ls)[j]? =some (i:Int)
 hP:qjv p
 hQ:qjv q
theorem LkF.A {ls:List (Int × Int)} {l:List Pc} {i a b o j:Nat} {p q:Pc} (h:LkF ls l i a b o j p q):lkA ls i=((a:Int),(b:Int)):=by rw [lkA,h.hx];rfl
theorem LkF.P {ls:List (Int × Int)} {l:List Pc} {i a b o j:Nat} {p q:Pc} (h:LkF ls l i a b o j p q):lkP ls l i=p:=by rw [lkP,h.A,Int.toNat_natCast,h.ha];rfl
theorem LkF.Q {ls:List (Int × Int)} {l:List Pc} {i a b o j:Nat} {p q:Pc} (h:LkF ls l i a b o j p q):lkQ ls l i=q:=by rw [lkQ,h.A,Int.toNat_natCast,h.hb];rfl
theorem LkF.O {ls:List (Int × Int)} {l:List Pc} {i a b o j:Nat} {p q:Pc} (h:LkF ls l i a b o j p q):lkO ls i=o:=by rw [lkO,h.A,h.ho,Int.toNat_natCast]
theorem LkF.J {ls:List (Int × Int)} {l:List Pc} {i a b o j:Nat} {p q:Pc} (h:LkF ls l i a b o j p q):lkJ ls i=j:=by rw [lkJ,h.A,h.hj,Int.toNat_natCast]
theorem LkF.E {ls:List (Int × Int)} {l:List Pc} {i a b o j:Nat} {p q:Pc} (h:LkF ls l i a b o j p q):lkE ls l i=p.sent[o]'h.hol:=by rw [lkE,h.P,h.O,List.getElem?_eq_getElem h.hol];rfl
theorem LkF.G {ls:List (Int × Int)} {l:List Pc} {i a b o j:Nat} {p q:Pc} (h:LkF ls l i a b o j p q):lkG ls l i=q.inn[j]'h.hjl:=by rw [lkG,h.Q,h.J,List.getElem?_eq_getElem h.hjl];rfl
theorem LkF.S {ls:List (Int × Int)} {l:List Pc} {i a b o j:Nat} {p q:Pc} (h:LkF ls l i a b o j p q) (hl:o < p.out.length):lkS ls l i=p.out[o]:=by rw [lkS,h.P,h.O,List.getElem?_eq_getElem hl];rfl
def bldS (l:List Pc):List Int:=l.map (·.state)
def bldL (ls:List (Int × Int)) (l:List Pc) (logs:Bool):List (List (Int × Int)):=(List.range ls.length).map (lkM ls l logs)
def bldE (ls:List (Int × Int)) (l:List Pc):List Int:=(List.range ls.length).map (lkE ls l)
def BldP (N:Int) (ls:List (Int × Int)) (T:List Nd) (l:List Pc) (logs:Bool):Prop:=
 qmM N ls T l∧(logs=true→ ∀i,i < ls.length→LkOk ls l i)∧qdc N ls T (bldS l) (bldL ls l logs) (bldE ls l)
noncomputable def bldB (N:Int) (ls:List (Int × Int)) (T:List Nd) (l:List Pc) (logs:Bool):(List Int × List (List (Int × Int)) × List Int) × Int:=
 if tB (BldP N ls T l logs) then((bldS l,bldL ls l logs,bldE ls l),0) else(([], [], []),4)
end Go.Proofs.NO
