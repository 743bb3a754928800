/- Facts that the proofs of this claim lean on. -/
import Derived.Test.YtfhhdgkhajkapaaGreatNWk
import Derived.Test.YtfhhdgkhajkapaaGreatNMe
import Derived.Test.YtfhhdgkhajkapaaGreatNPF
import Derived.Test.YtfhhdgkhajkapaaGreatNPI
set_option linter.unusedSimpArgs false
set_option linter.unusedVariables false
/- A table's answers: the mode, what a letter leads to. -/
namespace Go.Proofs.NO
open Go Go.Idl Go.Proofs Go.GP
set_option maxHeartbeats 20000000
set_option maxRecDepth 100000
def qbC (f a d:Int):List (Int × Int × Int)→Int
 | []=>d
 | t::r=>if t.1=f∧t.2.1=a then t.2.2 else qbC f a d r
theorem qd5 (T:List Nd) (n k:Nat) (x:Nd) (s:St) (hx:T[n]? =some x) (hq:x.states[k]? =some s):
  Pure Tryz.prog 176 [.p (.imm 2 (pr eNd T)),sci .i64 n,sci .i64 k] (.tup [lSt s,scb true]):=by
 obtain⟨ln,ex⟩:=List.getElem?_eq_some_iff.1 hx
 obtain⟨st,ss⟩:=x
 obtain⟨lk,es⟩:=List.getElem?_eq_some_iff.1 hq
 simp only at lk es
 refine qah 200 (fn:=Tryz.f176) Tryz.func176 rfl (by simp [Tryz.ntmps176]) zB zB fun hs=>?_
 simp (maxSteps:=2000000) only [go_sem,simprocAttr,maxLen] at hs
 ((try refine zW ?_);(try with_reducible exact True.intro))
 (try simp (maxSteps:=2000000) (disch:=omega) only [go_sem,simprocAttr,zD,zE,eNd,ex,eSt,es])
theorem qhR (T:List Nd) (n k:Nat) (x:Nd) (s:St) (hx:T[n]? =some x) (hq:x.states[k]? =some s):
  Pure Tryz.prog 93 [.p (.imm 2 (pr eNd T)),sci .i64 n,sci .i64 k] (sci .i64 s.mode):=by
 refine qah 200 (fn:=Tryz.f93) Tryz.func93 rfl (by simp [Tryz.ntmps93]) zB zB fun hs=>?_
 try refine zW ?_
 (refine qaf 200 ?_;refine zW ?_;refine callA_of (qd5 T n k x s hx hq) zB ?_;((try refine zW ?_);(try with_reducible exact True.intro)))
 ((try refine zO ?_);(try with_reducible exact True.intro))
theorem qeq (T:List Nd) (n k:Nat) (x:Nd) (s:St) (hx:T[n]? =some x) (hq:x.states[k]? =some s) (f a:Int) (hk:s.takes.length≤1000000):
  Pure Tryz.prog 102 [.p (.imm 2 (pr eNd T)),sci .i64 n,sci .i64 k,sci .i64 f,sci .i64 a] (sci .i64 (qbC f a k s.takes)):=by
 refine qah 200 (fn:=Tryz.f102) Tryz.func102 rfl (by simp [Tryz.ntmps102]) zB zB fun hs=>?_
 try refine zW ?_
 (refine qaf 200 ?_;refine zW ?_;refine callA_of (qd5 T n k x s hx hq) zB ?_;((try refine zW ?_);(try with_reducible exact True.intro)))
 try refine zO ?_
 (refine walk_trim [2,3,4,23,24,25] trivial zL ?_;((try refine zW ?_);(try with_reducible exact True.intro)))
 refine qal 200 200 (fun i:Nat=>i≤s.takes.length∧qbC f a k (s.takes.drop i)=qbC f a k s.takes)
  (fun i=>⟨43, [(2,sci .i64 k),(3,sci .i64 f),(4,sci .i64 a),(23, .p (.imm 3 (pr eIII s.takes))),(24,sci .i64 s.takes.length),(25,sci .i64 i)], [],1, []⟩) (fun i=>s.takes.length - i) (0) [] ?_ ?_ ?_
 ·simp
 ·constructor<;>(try simp (disch:=omega) only [go_sem,simprocAttr,zD,zE,Int.natCast_zero,List.take_of_length_le,List.append_assoc])
 ·rintro i hi
  obtain⟨hi,hinvi⟩:=hi
  try refine zW ?_
  by_cases li:i < s.takes.length
  ·rw [qbI li,qbC] at hinvi
   (try simp (disch:=omega) only [go_sem,simprocAttr,zD,zE,eIII])
   generalize s.takes[i]=t at *
   obtain⟨t1,t2,t3⟩:=t
   simp only at hinvi
   by_cases h1:t1=f
   ·by_cases h2:t2=a
    ·rw [if_pos ⟨h1,h2⟩] at hinvi
     (try simp (disch:=omega) only [go_sem,simprocAttr,zD,zE,h1,h2,←hinvi])
    ·rw [if_neg fun q=>h2 q.2] at hinvi
     (try simp (disch:=omega) only [go_sem,simprocAttr,zD,zE,h1,h2])
     refine⟨i+1, [],⟨li,hinvi⟩,by omega,?_⟩
     constructor<;>((try refine zO ?_);(try with_reducible exact True.intro))
   ·rw [if_neg fun q=>h1 q.1] at hinvi
    (try simp (disch:=omega) only [go_sem,simprocAttr,zD,zE,h1])
    refine⟨i+1, [],⟨li,hinvi⟩,by omega,?_⟩
    constructor<;>((try refine zO ?_);(try with_reducible exact True.intro))
  ·obtain rfl:i=s.takes.length:=by omega
   rw [List.drop_length,qbC] at hinvi
   (try simp (disch:=omega) only [go_sem,simprocAttr,zD,zE,←hinvi])
theorem indexL_at (a:Int) (l:List Int):qax a 0 l= -1∨ ∃j:Nat,qax a 0 l=(j:Int)∧j < l.length∧l[j]? =some a:=by
 rcases indexL_at' a l 0 with e | ⟨j,e,h⟩
 ·exact .inl e
 ·exact .inr ⟨j,by rw [e,Nat.zero_add],h⟩
def qeG {α:Type} (l:List (List α)) (i:Int):Int:=if i < 0 then 0 else((l[i.toNat]?).getD []).length
theorem qib {α:Type} (l:List (List α)):qeG l (-1)=0:=rfl
theorem qdP {α:Type} {l:List (List α)} {j:Nat} (h:j < l.length):qeG l (j:Int)=(l[j].length:Int):=by
 unfold qeG
 rw [if_neg (by omega),Int.toNat_natCast,List.getElem?_eq_getElem h,Option.getD_some]
theorem qhV (x:Int × Int) (q:Int):Pure Tryz.prog 99 [.agg [sci .i64 x.1,sci .i64 x.2],sci .i64 q] (sci .i64 (cmpI x.1 q)):=by
 refine qah 200 (fn:=Tryz.f99) Tryz.func99 rfl (by simp [Tryz.ntmps99]) zB zB fun hs=>?_
 try refine zW ?_
 (refine qaf 200 ?_;refine zW ?_;refine callA_of (qiw _ _) zB ?_;((try refine zW ?_);(try with_reducible exact True.intro)))
abbrev cmpFH:IV:= .p (.sc (.func (.func 99) #[] #[]))
def posL (q:Int):List (Int × Int)→Nat
 | []=>0
 | x::r=>if x.1 < q then posL q r+1 else 0
theorem qnp (q:Int): ∀(l:List (Int × Int)) (i:Nat) (hi:i≤l.length),(∀(k:Nat) (h:k < l.length),k < i→l[k].1 < q)→(∀h:i < l.length,¬l[i].1 < q)→posL q l=i
 | [],i,hi,_,_=>by simp at hi;rw [hi];rfl
 | x::r,0,_,_,h2=>by unfold posL;rw [if_neg (show ¬x.1 < q from h2 (by simp))]
 | x::r,i+1,hi,h1,h2=>by
   unfold posL
   rw [if_pos (show x.1 < q from h1 0 (by simp) (by omega)),qnp q r i (by simpa using hi) (fun k h hk=>h1 (k+1) (Nat.succ_lt_succ h) (by omega)) (fun h=>h2 (Nat.succ_lt_succ h))]
def UpH (l:List (Int × Int)):Prop:= ∀(a b:Nat) (hb:b < l.length) (hab:a < b),l[a].1 < l[b].1
theorem qoK (l:List (Int × Int)) (q:Int) (hu:UpH l) (hn:l.length≤1000):Pure Tryz.prog 98 [lII l,sci .i64 q,cmpFH]
  (.tup [sci .i64 (posL q l),scb (tB (∃x,l[posL q l]? =some x∧x.1=q))]):=by
 refine qah 200 (fn:=Tryz.f98) Tryz.func98 rfl (by simp [Tryz.ntmps98]) zB zB fun hs=>?_
 try refine zW ?_
 refine qa0 200 200 (fun p:Nat × Nat=>(p.1≤p.2∧p.2≤l.length)∧(∀(k:Nat) (h:k < l.length),k < p.1→l[k].1 < q)∧(∀(k:Nat) (h:k < l.length),p.2≤k→ ¬l[k].1 < q))
  (fun p=>⟨49, [(0,lII l),(1,sci .i64 q),(2,cmpFH),(8,sci .i64 l.length),(9,sci .i64 (p.1:Int)),(10,sci .i64 (p.2:Int))], [],0, []⟩) (fun p=>p.2 - p.1) (0,l.length) ?_ ?_ ?_
 ·exact⟨⟨Nat.zero_le _,Nat.le_refl _⟩,fun k h hk=>by simp at hk,fun k h hk=>by simp only at hk;omega⟩
 ·constructor<;>(try simp (disch:=omega) only [go_sem,simprocAttr,zD,zE,Int.natCast_zero])
 ·rintro⟨i,j⟩ ⟨⟨i1,i2⟩,i3,i4⟩
  simp only at i1 i2 i3 i4
  try refine zW ?_
  by_cases hij:i < j
  ·have hij':(i:Int) < (j:Int):=by omega
   (try simp (disch:=omega) only [go_sem,simprocAttr,zD,zE,hij'])
   obtain⟨h,hmh,h1,h2⟩: ∃h:Nat,IntKind.i64.wrap ((IntKind.u64.wrap ((i:Int)+(j:Int))).fdiv (2 ^ min 1 64))=(h:Int)∧i≤h∧h < j:=⟨(i+j) / 2,mid_of (by omega),by omega,by omega⟩
   have hl:h < l.length:=by omega
   have lo: ∀(k:Nat) (hk:k < l.length),k < h→l[k].1 < l[h].1:=fun k hk q=>hu k h hl q
   have hi: ∀(k:Nat) (hk:k < l.length),h < k→l[h].1 < l[k].1:=fun k hk q=>hu h k hk q
   (try simp (disch:=omega) only [go_sem,simprocAttr,zD,zE,hmh,eII])
   generalize hx:l[h]=x at *
   obtain⟨sq,lt⟩:=x
   (refine qaf 200 ?_;refine zW ?_;refine callA_of (qhV (sq,lt) q) zB ?_;((try refine zW ?_);(try with_reducible exact True.intro)))
   by_cases hc:sq < q
   ·have ec:cmpI sq q= -1:=by unfold cmpI;rw [if_pos hc]
    (try simp (disch:=omega) only [go_sem,simprocAttr,zD,zE,ec])
    refine⟨(h+1,j),⟨⟨by omega,i2⟩,fun k hk kk=>?_,i4⟩,by simp only;omega,?_⟩
    ·rcases Nat.lt_or_ge k h with g | g
     ·have:=lo k hk g;simp only at this;omega
     ·obtain rfl:k=h:=by simp only at kk;omega
      rw [hx];exact hc
    ·constructor<;>((try refine zO ?_);(try with_reducible exact True.intro))
   ·have ec: ¬cmpI sq q < 0:=by unfold cmpI;rw [if_neg hc];split<;>omega
    (try simp (disch:=omega) only [go_sem,simprocAttr,zD,zE,ec])
    refine⟨(i,h),⟨⟨h1,by simp only;omega⟩,i3,fun k hk kk=>?_⟩,by simp only;omega,?_⟩
    ·rcases Nat.lt_or_ge h k with g | g
     ·have:=hi k hk g;simp only at this;omega
     ·obtain rfl:k=h:=by simp only at kk;omega
      rw [hx];exact hc
    ·constructor<;>((try refine zO ?_);(try with_reducible exact True.intro))
  ·obtain rfl:j=i:=by omega
   have hp:posL q l=j:=qnp q l j i2 i3 fun h=>i4 j h (Nat.le_refl _)
   rw [hp]
   by_cases hj:j < l.length
   ·have ge:=i4 j hj (Nat.le_refl _)
    have eg:l[j]? =some l[j]:=List.getElem?_eq_getElem hj
    (try simp (disch:=omega) only [go_sem,simprocAttr,zD,zE,eII])
    generalize l[j]=x at *
    obtain⟨sq,lt⟩:=x
    (refine qaf 200 ?_;refine zW ?_;refine callA_of (qhV (sq,lt) q) zB ?_;((try refine zW ?_);(try with_reducible exact True.intro)))
    by_cases hc:sq=q
    ·have ec:cmpI sq q=0:=by unfold cmpI;simp only at ge;rw [if_neg ge,if_neg (by omega)]
     have e:tB (∃x,l[j]? =some x∧x.1=q)=true:=qa6 ⟨_,eg,hc⟩
     (try simp (disch:=omega) only [go_sem,simprocAttr,zD,zE,ec,e])
    ·have ec:cmpI sq q=1:=by unfold cmpI;simp only at ge;rw [if_neg ge,if_pos (by omega)]
     have e:tB (∃x,l[j]? =some x∧x.1=q)=false:=qaU fun⟨x,h1,h2⟩=>by rw [eg] at h1;cases h1;exact hc h2
     (try simp (disch:=omega) only [go_sem,simprocAttr,zD,zE,ec,e])
   ·have e:tB (∃x,l[j]? =some x∧x.1=q)=false:=qaU fun⟨x,h1,h2⟩=>by rw [List.getElem?_eq_none (by omega)] at h1;cases h1
    (try simp (disch:=omega) only [go_sem,simprocAttr,zD,zE,e])
end Go.Proofs.NO
