/- Facts that the proofs of this claim lean on. -/
import Derived.Test.YteebghpjgcacmaaGreatGPm
import Derived.Test.YteebghpjgcacmaaGreatIdAz
import Derived.Test.YteebghpjgcacmaaGreatIdRb
set_option linter.unusedSimpArgs false
set_option linter.unusedVariables false
/- A map that counts numbers. -/
namespace Go.GP
open Go Go.Idl
def bump (a:Int):List (Int × Int)→List (Int × Int)
 | []=> [(a,1)]
 | x::r=>if x.1=a then(x.1,x.2+1)::r else x::bump a r
def cntC (a:Int):List (Int × Int)→Int
 | []=>0
 | x::r=>if x.1=a then x.2 else cntC a r
def idxC (a:Int):List (Int × Int)→Nat
 | []=>0
 | x::r=>if x.1=a then 0 else idxC a r+1
def inC (a:Int):List (Int × Int)→Bool
 | []=>false
 | x::r=>if x.1=a then true else inC a r
def cntM (l:List Int):List (Int × Int):=l.foldl (fun m a=>bump a m) []
def mpC (l:List (Int × Int)):List (Value × IV):=l.map fun x=>(.int .i64 x.1,sci .i64 x.2)
variable {a b:Int} {l:List (Int × Int)} {v:IV} {i:Nat}
@[go_sem] theorem qqw:mpC []= []:=(rfl)
@[go_sem] theorem qoO:cntM []= []:=(rfl)
theorem qnW (l:List Int) (a:Int):cntM (l++ [a])=bump a (cntM l):=by simp [cntM,List.foldl_append]
theorem qkm: ∀ {l:List (Int × Int)},cntC a (bump b l)=cntC a l+if b=a then 1 else 0
 | []=>by simp only [bump,cntC];split<;>simp
 | x::r=>by
   simp only [bump]
   split
   ·rename_i h
    simp only [cntC]
    split
    ·rename_i h2;rw [if_pos (h ▸h2)]
    ·rename_i h2;rw [if_neg (fun q=>h2 (h.trans q))];omega
   ·rename_i h
    simp only [cntC]
    split
    ·rename_i h2;rw [if_neg (fun q=>h (h2.trans q.symm))];omega
    ·exact qkm
theorem qfi (l:List Int) (a:Int):cntC a (cntM l)=(l.count a:Int):=by
 have h: ∀(l:List Int) (m:List (Int × Int)),cntC a (l.foldl (fun m a=>bump a m) m)=cntC a m+(l.count a:Int):=by
  intro l
  induction l with
  | nil=>intro m;simp
  | cons b r ih=>
    intro m
    rw [List.foldl_cons,ih,qkm,List.count_cons]
    by_cases h:b=a
    ·simp [h];omega
    ·simp [h]
 have:=h l []
 simpa [cntM,cntC] using this
theorem qqn: ∀ {l:List (Int × Int)},inC a l=true→idxC a l < l.length
 | [],h=>by cases h
 | x::r,h=>by
   simp only [inC,idxC] at *
   split
   ·simp
   ·rename_i q
    rw [if_neg q] at h
    have:=qqn h
    simp only [List.length_cons];omega
theorem notC: ∀ {l:List (Int × Int)},inC a l=false→cntC a l=0
 | [],_=>rfl
 | x::r,h=>by
   simp only [inC,cntC] at *
   split
   ·rename_i q;rw [if_pos q] at h;cases h
   ·rename_i q
    rw [if_neg q] at h
    exact notC h
theorem mfC': ∀ {l:List (Int × Int)} {i:Nat},qbx false [.int .i64] [.int .i64 a] i (mpC l)=some (if inC a l then some (i+idxC a l,sci .i64 (cntC a l)) else none)
 | [],i=>by simp [mpC,qbx,inC]
 | x::r,i=>by
   have e:mpC (x::r)=(.int .i64 x.1,sci .i64 x.2)::mpC r:=rfl
   rw [e,qbx]
   simp only [kok,Bool.not_false,if_true,Value.cells,leq,sleq,and_self,inC,idxC,cntC]
   by_cases h:x.1=a
   ·have e1:((a==x.1) && true)=true:=by simp [h]
    simp only [e1,if_pos h,Nat.add_zero,if_true]
   ·have e1:((a==x.1) && true)=false:=by simp;exact fun q=>h q.symm
    simp only [e1,if_neg h]
    rw [mfC',show i+1+idxC a r=i+(idxC a r+1) by omega]
theorem qmp: ∀ {l:List (Int × Int)},inC a l=true→(mpC l).set (idxC a l) (.int .i64 a, .p (.sc (.int .i64 (cntC a l+1))))=mpC (bump a l)
 | [],h=>by cases h
 | x::r,h=>by
   have e:mpC (x::r)=(.int .i64 x.1,sci .i64 x.2)::mpC r:=rfl
   simp only [inC,idxC,cntC,bump] at *
   rw [e]
   split
   ·rename_i q;rw [List.set_cons_zero,←q];rfl
   ·rename_i q
    rw [if_neg q] at h
    rw [List.set_cons_succ,qmp h];rfl
theorem qmd: ∀ {l:List (Int × Int)},inC a l=false→bump a l=l++ [(a,1)]
 | [],_=>rfl
 | x::r,h=>by
   simp only [inC,bump] at *
   split
   ·rename_i q;rw [if_pos q] at h;cases h
   ·rename_i q
    rw [if_neg q] at h
    rw [qmd h];rfl
@[go_sem] theorem blkBel_mpC {n:Nat} {l:List (Int × Int)}:qaT n (.mp (mpC l))=True:=eq_true (by
  unfold qaT
  intro e he
  simp only [mpC,List.mem_map] at he
  obtain⟨x,_,rfl⟩:=he
  trivial)
end Go.GP
/- A map that counts numbers, on the walk. -/
namespace Go.GP
open Go Go.Idl
structure qhs (P:Program) (t:TypeId):Prop where
 ex: ∃k e,tmp P t=some (k,e)∧tkey P k=some (false, [.int .i64])∧tag P k=some false∧(tzv P e).bind cstv=some (sci .i64 0)
variable {P:Program} {t:TypeId} {G:Nat→Option IBlk} {b:Nat} {l:List (Int × Int)} {x:Int}
theorem qi9 (h:qhs P t) (hG:G b=some (.mp (mpC l))): ∃e,(tzv P e).bind cstv=some (sci .i64 0)∧
  mlook P G t (.mp b) (sci .i64 x)=some (b,mpC l, .int .i64 x,(if inC x l then some (idxC x l,sci .i64 (cntC x l)) else none),e):=by
 obtain⟨k,e,h1,h2,h3,h4⟩:=h.ex
 refine⟨e,h4,?_⟩
 simp only [mlook,h1,hG,h2,ikey,h3,sci,Value.cells]
 refine(if_pos rfl).trans ?_
 have e2:=mfC' (a:=x) (l:=l) (i:=0)
 simp only [Nat.zero_add,sci] at e2
 rw [e2]
 rfl
theorem qeF (h:qhs P t) (hG:G b=some (.mp (mpC l))):
  qbp P G t (.mp b) (.p (.sc (.int .i64 x))) false=some {x:= .p (.sc (.int .i64 (cntC x l))),R:= [(b, .mp (mpC l))]}:=by
 obtain⟨e,h4,h5⟩:=qi9 (x:=x) h hG
 simp only [sci] at h5 h4
 unfold qbp
 rw [h5]
 by_cases hi:inC x l=true
 ·simp [hi]
 ·simp only [if_neg hi,h4]
  rw [notC (by simpa using hi)];rfl
theorem qlR (h:qhs P t) (hG:G b=some (.mp (mpC l))):
  qbO P G t (.mp b) (.p (.sc (.int .i64 x))) (.p (.sc (.int .i64 (cntC x l+1))))=some {x:= .dead,R:= [(b, .mp (mpC l))],W:= [(b, .mp (mpC (bump x l)))]}:=by
 obtain⟨e,h4,h5⟩:=qi9 (x:=x) h hG
 simp only [sci] at h5 h4
 unfold qbO
 rw [h5]
 by_cases hi:inC x l=true
 ·simp only [hi,if_true]
  rw [qmp hi]
 ·have hi':inC x l=false:=by simpa using hi
  simp only [if_neg hi]
  rw [qmd hi',notC hi']
  simp [mpC,sci]
@[go_sem] theorem rnB_mpC {ρ:Nat→Nat} {l:List (Int × Int)}:rnB ρ (.mp (mpC l))= .mp (mpC l):=by
  simp only [rnB,mpC,List.map_map];rfl
end Go.GP
