/- Facts that the proofs of this claim lean on. -/
import Derived.Test.YtfhhdgkhajkapaaGreatNzCl
import Derived.Test.YtfhhdgkhajkapaaGreatGN
import Derived.Test.YtfhhdgkhajkapaaGreatNQB
set_option linter.unusedSimpArgs false
set_option linter.unusedVariables false
/- Pieces put in order: the sort in place. -/
namespace Go.Proofs.NO
open Go Go.Idl Go.Proofs Go.GN Go.Proofs.Tryz
set_option maxHeartbeats 20000000
set_option maxRecDepth 100000
def cmpI (a b:Int):Int:=if a < b then -1 else if b < a then 1 else 0
theorem qay (a:Int):Pure prog 178 [sci .i64 a] (scb false):=by
 refine pcall0 200 (fn:=f178) func178 rfl (by simp [ntmps178]) zB zB fun hs=>?_
 (repeat(first | ((refine zW ?_;try with_reducible exact True.intro))))
theorem qfk (a b:Int):Pure prog 100 [sci .i64 a,sci .i64 b] (sci .i64 (cmpI a b)):=by
 refine pcall0 200 (fn:=f100) func100 rfl (by simp [ntmps100]) zB zB fun hs=>?_
 unfold cmpI
 by_cases h1:a < b
 ·(repeat(first | ((refine zW ?_;try with_reducible exact True.intro)) | (refine zG ?_;refine callA_of (qay _) zB ?_;((try refine zW ?_);(try with_reducible exact True.intro))) | (refine zF ?_;refine callA_of (qay _) zB ?_;((try refine zW ?_);(try with_reducible exact True.intro))) | (refine zG ?_;refine qaG ?_;refine zW ?_;refine qaX (qay _) (by first | rfl | (split<;>rfl)) ?_;((try refine zW ?_);(try with_reducible exact True.intro))) | (refine zF ?_;refine qaG ?_;refine zW ?_;refine qaX (qay _) (by first | rfl | (split<;>rfl)) ?_;((try refine zW ?_);(try with_reducible exact True.intro)))))
  ((try refine zO ?_);(try with_reducible exact True.intro))
  (repeat(first | ((refine zW ?_;try with_reducible exact True.intro)) | (refine zG ?_;refine callA_of (qay _) zB ?_;((try refine zW ?_);(try with_reducible exact True.intro))) | (refine zF ?_;refine callA_of (qay _) zB ?_;((try refine zW ?_);(try with_reducible exact True.intro))) | (refine zG ?_;refine qaG ?_;refine zW ?_;refine qaX (qay _) (by first | rfl | (split<;>rfl)) ?_;((try refine zW ?_);(try with_reducible exact True.intro))) | (refine zF ?_;refine qaG ?_;refine zW ?_;refine qaX (qay _) (by first | rfl | (split<;>rfl)) ?_;((try refine zW ?_);(try with_reducible exact True.intro)))))
 ·by_cases h2:b < a
  ·(repeat(first | ((refine zW ?_;try with_reducible exact True.intro)) | (refine zG ?_;refine callA_of (qay _) zB ?_;((try refine zW ?_);(try with_reducible exact True.intro))) | (refine zF ?_;refine callA_of (qay _) zB ?_;((try refine zW ?_);(try with_reducible exact True.intro))) | (refine zG ?_;refine qaG ?_;refine zW ?_;refine qaX (qay _) (by first | rfl | (split<;>rfl)) ?_;((try refine zW ?_);(try with_reducible exact True.intro))) | (refine zF ?_;refine qaG ?_;refine zW ?_;refine qaX (qay _) (by first | rfl | (split<;>rfl)) ?_;((try refine zW ?_);(try with_reducible exact True.intro)))))
   ((try refine zO ?_);(try with_reducible exact True.intro))
   (repeat(first | ((refine zW ?_;try with_reducible exact True.intro)) | (refine zG ?_;refine callA_of (qay _) zB ?_;((try refine zW ?_);(try with_reducible exact True.intro))) | (refine zF ?_;refine callA_of (qay _) zB ?_;((try refine zW ?_);(try with_reducible exact True.intro))) | (refine zG ?_;refine qaG ?_;refine zW ?_;refine qaX (qay _) (by first | rfl | (split<;>rfl)) ?_;((try refine zW ?_);(try with_reducible exact True.intro))) | (refine zF ?_;refine qaG ?_;refine zW ?_;refine qaX (qay _) (by first | rfl | (split<;>rfl)) ?_;((try refine zW ?_);(try with_reducible exact True.intro)))))
  ·(repeat(first | ((refine zW ?_;try with_reducible exact True.intro)) | (refine zG ?_;refine callA_of (qay _) zB ?_;((try refine zW ?_);(try with_reducible exact True.intro))) | (refine zF ?_;refine callA_of (qay _) zB ?_;((try refine zW ?_);(try with_reducible exact True.intro))) | (refine zG ?_;refine qaG ?_;refine zW ?_;refine qaX (qay _) (by first | rfl | (split<;>rfl)) ?_;((try refine zW ?_);(try with_reducible exact True.intro))) | (refine zF ?_;refine qaG ?_;refine zW ?_;refine qaX (qay _) (by first | rfl | (split<;>rfl)) ?_;((try refine zW ?_);(try with_reducible exact True.intro)))))
   ((try refine zO ?_);(try with_reducible exact True.intro))
   (repeat(first | ((refine zW ?_;try with_reducible exact True.intro)) | (refine zG ?_;refine callA_of (qay _) zB ?_;((try refine zW ?_);(try with_reducible exact True.intro))) | (refine zF ?_;refine callA_of (qay _) zB ?_;((try refine zW ?_);(try with_reducible exact True.intro))) | (refine zG ?_;refine qaG ?_;refine zW ?_;refine qaX (qay _) (by first | rfl | (split<;>rfl)) ?_;((try refine zW ?_);(try with_reducible exact True.intro))) | (refine zF ?_;refine qaG ?_;refine zW ?_;refine qaX (qay _) (by first | rfl | (split<;>rfl)) ?_;((try refine zW ?_);(try with_reducible exact True.intro)))))
theorem qpk (p q:Pc):Pure prog 299 [lPc p,lPc q] (sci .i64 (cmpI p.node q.node)):=by
 refine pcall0 200 (fn:=f299) func299 rfl (by simp [ntmps299]) zB zB fun hs=>?_
 try refine zW ?_
 (refine zG ?_;refine callA_of (qfk _ _) zB ?_;((try refine zW ?_);(try with_reducible exact True.intro)))
abbrev cmpF:IV:= .p (.sc (.func (.func 299) #[] #[]))
def ltP (x y:Pc):Bool:=decide (x.node < y.node)
theorem qpl (p q:Pc):decide (cmpI p.node q.node < 0)=ltP p q:=by
 unfold cmpI ltP
 by_cases h1:p.node < q.node
 ·simp [h1]
 ·rw [if_neg h1]
  split<;>simp [h1]
def qdm {α:Type} (lt:α→α→Bool) (a:Nat):Nat→List α→List α
 | 0,l=>l
 | d+1,l=>match l[a+d+1]?,l[a+d]? with
   | some x,some y=>if lt x y then qdm lt a d (swp l (a+d) x y) else l
   | _,_=>l
def insA {α:Type} (lt:α→α→Bool) (a:Nat):Nat→Nat→List α→List α
 | 0,_,l=>l
 | f+1,d,l=>insA lt a f (d+1) (qdm lt a d l)
theorem qra {α:Type} {lt:α→α→Bool} {a d:Nat} {M:List α} (hx:a+d+1 < M.length) (hy:a+d < M.length):qdm lt a (d+1) M=if lt M[a+d+1] M[a+d]=true then qdm lt a d (swp M (a+d) M[a+d+1] M[a+d]) else M:=by
 rw [qdm,List.getElem?_eq_getElem hx,List.getElem?_eq_getElem hy]
@[go_sem] theorem ir_setP {l:List Pc} {i:Nat} {p:Pc}:(ir ePc l).set i [.p (.sc (.int .i64 p.node)), .p (.sc (.int .i64 p.state)), .p (.sc (.int .i64 p.steps)), .p (.imm 1 (pr eI p.sent)), .p (.imm 1 (pr eMs p.inn)), .p (.imm 1 (pr eLs p.out))]=ir ePc (l.set i p):=qlk (f:=ePc) (a:=p)
abbrev pB (g:Nat) (l:List Pc):IBlk:= .arr 6 g (ir ePc l)
theorem qiR (g a b:Nat) (l:List Pc) (hab:a≤b) (hb:b≤l.length) (hn:l.length < 1000):
  PG prog 348 [.ref 0 g 0 l.length,sci .i64 (a:Int),sci .i64 (b:Int),cmpF] [pB g l] 0 (.tup []) [(0,pB g (insA ltP a (b - (a+1)) 1 l))]:=by
 generalize hres:insA ltP a (b - (a+1)) 1 l=res
 refine pg_of 200 (fn:=f348) func348 rfl (by simp [ntmps348]) 1 rfl zC zC zC zC zC fun hs=>?_
 try refine zW ?_
 refine qan 200 200 (fun p:Nat × List Pc=>a+1≤p.1∧(p.1≤b∨p.1=a+1)∧p.2.length=l.length∧insA ltP a (b - p.1) (p.1 - a) p.2=res)
  (fun p=>⟨53, [(0, .ref 0 g 0 l.length),(1,sci .i64 (a:Int)),(2,sci .i64 (b:Int)),(3,cmpF),(8,sci .i64 (p.1:Int))], [],1, [(0,pB g p.2)]⟩) (fun p=>b - p.1) (a+1,l) ?_ ?_ ?_
 ·refine⟨Nat.le_refl _, .inr rfl,rfl,?_⟩
  rw [show a+1 - a=1 by omega];exact hres
 ·constructor<;>(try simp (maxSteps:=2000000) (disch:=omega) only [go_sem,simprocAttr,zD,zE,Int.natCast_one])
 ·rintro⟨i,L⟩ ⟨i1,i2,i3,i5⟩
  simp only at i1 i2 i3 i5
  try refine zW ?_
  by_cases hi:i < b
  ·have hi':(i:Int) < (b:Int):=by omega
   (try simp (maxSteps:=2000000) (disch:=omega) only [go_sem,simprocAttr,zD,zE,hi'])
   refine qan 200 200 (fun p:Nat × List Pc=>a≤p.1∧p.1≤i∧p.2.length=l.length∧qdm ltP a (p.1 - a) p.2=qdm ltP a (i - a) L)
    (fun p=>⟨53, [(0, .ref 0 g 0 l.length),(1,sci .i64 (a:Int)),(2,sci .i64 (b:Int)),(3,cmpF),(8,sci .i64 (i:Int)),(9,sci .i64 (p.1:Int))], [],1, [(0,pB g p.2)]⟩) (fun p=>p.1) (i,L) ?_ ?_ ?_
   ·exact⟨by simp only;omega,Nat.le_refl _,i3,rfl⟩
   ·constructor<;>((try refine zO ?_);(try with_reducible exact True.intro))
   ·rintro⟨j,M⟩ ⟨j0,j1,j2,j4⟩
    simp only at j0 j1 j2 j4
    try refine zW ?_
    (refine zM [0,1,2,3,8,9] ?_;refine zI [none,none,none,none,none,none,none,none,none,none,none,none,none,none,some [],none,none] ?_)
    by_cases hja:j=a
    ·subst hja
     try refine zO ?_
     have e0:M=qdm ltP j (i - j) L:=by rw [←j4,Nat.sub_self];rfl
     refine⟨(i+1,M),⟨by simp only;omega, .inl (by simp only;omega),j2,?_⟩,by simp only;omega,?_⟩
     ·rw [show b - i=(b - (i+1))+1 by omega] at i5
      simp only
      rw [e0,show i+1 - j=(i - j)+1 by omega]
      exact i5
     ·constructor<;>((try refine zO ?_);(try with_reducible exact True.intro))
    ·obtain⟨j,rfl⟩: ∃k,j=k+1:=⟨j - 1,by omega⟩
     have hx:j+1 < M.length:=by omega
     have hy:j < M.length:=by omega
     have hgt:(a:Int) < (j:Int)+1:=by omega
     have tn:((j:Int)+1).toNat=j+1:=rfl
     have hsx:a+(j - a)+1 < M.length:=by omega
     have hsy:a+(j - a) < M.length:=by omega
     have e1:=qra (lt:=ltP) hsx hsy
     simp only [show a+(j - a)=j by omega] at e1
     rw [show j - a+1=j+1 - a by omega,j4] at e1
     (try simp (maxSteps:=2000000) (disch:=omega) only [go_sem,simprocAttr,zD,zE,hgt,tn,Int.add_sub_cancel,ePc])
     (refine zF ?_;refine callA_of (qpk M[j+1] M[j]) zB ?_)
     try refine zO ?_
     by_cases hc:ltP M[j+1] M[j]=true
     ·have hc3:decide (cmpI M[j+1].node M[j].node < 0)=true:=by rw [qpl];exact hc
      rw [if_pos hc] at e1
      (try simp (maxSteps:=2000000) (disch:=omega) only [go_sem,simprocAttr,zD,zE,hc3])
      (refine zM [0,1,2,3,8,9] ?_;refine zI [none,none,none,none,none,none,none,none,none,none,none,none,none,none,none,some [2,3,4],none,some []] ?_)
      have e2:(ir ePc (M.set (j+1) M[j]))[j]? =some ((ePc M[j]).map .p):=qiS (by rw [List.getElem?_set_ne (by omega),List.getElem?_eq_getElem hy])
      (try simp (maxSteps:=2000000) (disch:=omega) only [go_sem,simprocAttr,zD,zE,ePc,tn,Int.add_sub_cancel,e2])
      refine⟨(j,swp M j M[j+1] M[j]),⟨by simp only;omega,by simp only;omega,by rw [qi3];exact j2,e1.symm⟩,by simp,?_⟩
      constructor<;>(try simp (maxSteps:=2000000) (disch:=omega) only [go_sem,simprocAttr,zD,zE,swp,Int.add_sub_cancel])
     ·have hc3:decide (cmpI M[j+1].node M[j].node < 0)=false:=by rw [qpl];simpa using hc
      rw [if_neg hc] at e1
      (try simp (maxSteps:=2000000) (disch:=omega) only [go_sem,simprocAttr,zD,zE,hc3])
      refine⟨(i+1,M),⟨by simp only;omega, .inl (by simp only;omega),j2,?_⟩,by simp only;omega,?_⟩
      ·rw [show b - i=(b - (i+1))+1 by omega] at i5
       simp only
       rw [←e1,show i+1 - a=(i - a)+1 by omega]
       exact i5
      ·constructor<;>((try refine zO ?_);(try with_reducible exact True.intro))
  ·have hi': ¬((i:Int) < (b:Int)):=by omega
   (try simp (maxSteps:=2000000) (disch:=omega) only [go_sem,simprocAttr,zD,zE,hi'])
   rw [show b - i=0 by omega] at i5
   have e0:L=res:=i5
   rw [e0]
   ((try refine zW ?_);(try with_reducible exact True.intro))
theorem mid_of {i j:Nat} (h:i+j < 100000):IntKind.i64.wrap ((IntKind.u64.wrap ((i:Int)+(j:Int))).fdiv (2 ^ min 1 64))=(((i+j) / 2:Nat):Int):=by
 have e1:IntKind.u64.wrap ((i:Int)+(j:Int))=((i+j:Nat):Int):=by rw [IntKind.wrap_u64];omega
 have e2:(2:Int) ^ min 1 64=2:=by decide
 rw [e1,e2,Int.fdiv_eq_ediv_of_nonneg _ (by decide),IntKind.wrap_i64];omega
end Go.Proofs.NO
/- Where a message belongs: a search by halves. -/
namespace Go.Proofs.NO
open Go Go.Idl Go.Proofs Go.GP Go.Proofs.Tryz
set_option maxHeartbeats 20000000
set_option maxRecDepth 100000
theorem qjc (x:Int × Int) (q:Int):Pure prog 99 [.agg [sci .i64 x.1,sci .i64 x.2],sci .i64 q] (sci .i64 (cmpI x.1 q)):=by
 refine pcall0 200 (fn:=f99) func99 rfl (by simp [ntmps99]) zB zB fun hs=>?_
 try refine zW ?_
 (refine zG ?_;refine callA_of (qfk _ _) zB ?_;((try refine zW ?_);(try with_reducible exact True.intro)))
abbrev cmpFH:IV:= .p (.sc (.func (.func 99) #[] #[]))
def posL (q:Int):List (Int × Int)→Nat
 | []=>0
 | x::r=>if x.1 < q then posL q r+1 else 0
theorem qpU (q:Int): ∀(l:List (Int × Int)) (i:Nat) (hi:i≤l.length),(∀(k:Nat) (h:k < l.length),k < i→l[k].1 < q)→(∀h:i < l.length,¬l[i].1 < q)→posL q l=i
 | [],i,hi,_,_=>by simp at hi;rw [hi];rfl
 | x::r,0,_,_,h2=>by unfold posL;rw [if_neg (show ¬x.1 < q from h2 (by simp))]
 | x::r,i+1,hi,h1,h2=>by
   unfold posL
   rw [if_pos (show x.1 < q from h1 0 (by simp) (by omega)),qpU q r i (by simpa using hi) (fun k h hk=>h1 (k+1) (Nat.succ_lt_succ h) (by omega)) (fun h=>h2 (Nat.succ_lt_succ h))]
def UpH (l:List (Int × Int)):Prop:= ∀(a b:Nat) (hb:b < l.length) (hab:a < b),l[a].1 < l[b].1
theorem qrm (l:List (Int × Int)) (q:Int) (hu:UpH l) (hn:l.length≤1000):Pure prog 98 [lII l,sci .i64 q,cmpFH]
  (.tup [sci .i64 (posL q l),scb (tB (∃x,l[posL q l]? =some x∧x.1=q))]):=by
 refine pcall0 200 (fn:=f98) func98 rfl (by simp [ntmps98]) zB zB fun hs=>?_
 try refine zW ?_
 refine qan 200 200 (fun p:Nat × Nat=>(p.1≤p.2∧p.2≤l.length)∧(∀(k:Nat) (h:k < l.length),k < p.1→l[k].1 < q)∧(∀(k:Nat) (h:k < l.length),p.2≤k→ ¬l[k].1 < q))
  (fun p=>⟨49, [(0,lII l),(1,sci .i64 q),(2,cmpFH),(8,sci .i64 l.length),(9,sci .i64 (p.1:Int)),(10,sci .i64 (p.2:Int))], [],0, []⟩) (fun p=>p.2 - p.1) (0,l.length) ?_ ?_ ?_
 ·exact⟨⟨Nat.zero_le _,Nat.le_refl _⟩,fun k h hk=>by simp at hk,fun k h hk=>by simp only at hk;omega⟩
 ·constructor<;>(try simp (disch:=omega) only [go_sem,simprocAttr,zD,zE,Int.natCast_zero])
 ·rintro⟨i,j⟩ ⟨⟨i1,i2⟩,i3,i4⟩
  simp only at i1 i2 i3 i4
  try refine zW ?_
  by_cases hij:i < j
  ·have hij':(i:Int) < (j:Int):=by omega
   (try simp (disch:=omega) only [go_sem,simprocAttr,zD,zE,hij'])
   obtain⟨h,hmh,h1,h2⟩: ∃h:Nat,IntKind.i64.wrap ((IntKind.u64.wrap ((i:Int)+(j:Int))).fdiv (2 ^ min 1 64))=(h:Int)∧i≤h∧h < j:=⟨(i+j) / 2,mid_of (by omega),by omega,by omega⟩
   have hl:h < l.length:=by omega
   have lo: ∀(k:Nat) (hk:k < l.length),k < h→l[k].1 < l[h].1:=fun k hk q=>hu k h hl q
   have hi: ∀(k:Nat) (hk:k < l.length),h < k→l[h].1 < l[k].1:=fun k hk q=>hu h k hk q
   (try simp (disch:=omega) only [go_sem,simprocAttr,zD,zE,hmh,eII])
   generalize hx:l[h]=x at *
   obtain⟨sq,lt⟩:=x
   (refine zG ?_;refine callA_of (qjc (sq,lt) q) zB ?_;try refine zW ?_)
   by_cases hc:sq < q
   ·have ec:cmpI sq q= -1:=by unfold cmpI;rw [if_pos hc]
    (try simp (disch:=omega) only [go_sem,simprocAttr,zD,zE,ec])
    refine⟨(h+1,j),⟨⟨by omega,i2⟩,fun k hk kk=>?_,i4⟩,by simp only;omega,?_⟩
    ·rcases Nat.lt_or_ge k h with g | g
     ·have:=lo k hk g;simp only at this;omega
     ·obtain rfl:k=h:=by simp only at kk;omega
      rw [hx];exact hc
    ·constructor<;>((try refine zO ?_);(try with_reducible exact True.intro))
   ·have ec: ¬cmpI sq q < 0:=by unfold cmpI;rw [if_neg hc];split<;>omega
    (try simp (disch:=omega) only [go_sem,simprocAttr,zD,zE,ec])
    refine⟨(i,h),⟨⟨h1,by simp only;omega⟩,i3,fun k hk kk=>?_⟩,by simp only;omega,?_⟩
    ·rcases Nat.lt_or_ge h k with g | g
     ·have:=hi k hk g;simp only at this;omega
     ·obtain rfl:k=h:=by simp only at kk;omega
      rw [hx];exact hc
    ·constructor<;>((try refine zO ?_);(try with_reducible exact True.intro))
  ·obtain rfl:j=i:=by omega
   have hp:posL q l=j:=qpU q l j i2 i3 fun h=>i4 j h (Nat.le_refl _)
   rw [hp]
   by_cases hj:j < l.length
   ·have ge:=i4 j hj (Nat.le_refl _)
    have eg:l[j]? =some l[j]:=List.getElem?_eq_getElem hj
    (try simp (disch:=omega) only [go_sem,simprocAttr,zD,zE,eII])
    generalize l[j]=x at *
    obtain⟨sq,lt⟩:=x
    (refine zG ?_;refine callA_of (qjc (sq,lt) q) zB ?_;try refine zW ?_)
    by_cases hc:sq=q
    ·have ec:cmpI sq q=0:=by unfold cmpI;simp only at ge;rw [if_neg ge,if_neg (by omega)]
     have e:tB (∃x,l[j]? =some x∧x.1=q)=true:=qal ⟨_,eg,hc⟩
     (try simp (disch:=omega) only [go_sem,simprocAttr,zD,zE,ec,e])
    ·have ec:cmpI sq q=1:=by unfold cmpI;simp only at ge;rw [if_neg ge,if_pos (by omega)]
     have e:tB (∃x,l[j]? =some x∧x.1=q)=false:=qaf fun⟨x,h1,h2⟩=>by rw [eg] at h1;cases h1;exact hc h2
     (try simp (disch:=omega) only [go_sem,simprocAttr,zD,zE,ec,e])
   ·have e:tB (∃x,l[j]? =some x∧x.1=q)=false:=qaf fun⟨x,h1,h2⟩=>by rw [List.getElem?_eq_none (by omega)] at h1;cases h1
    (try simp (disch:=omega) only [go_sem,simprocAttr,zD,zE,e])
def zH:Hs:=⟨0,0,0, [], []⟩
noncomputable def takeH (ls:List (Int × Int)) (st:St) (h:Hs) (x:Int) (m:Int × Int):Hs × Int:=
 if indexL x 0 (ins h.node 0 ls) < 0∨m.1 < 1∨500 < m.1∨m.2 < 0∨4≤m.2 then(zH,1)
 else match h.inn[(indexL x 0 (ins h.node 0 ls)).toNat]?,ls[x.toNat]? with
 | some l,some lk=>if tB (∃y,l[posL m.1 l]? =some y∧y.1=m.1)=true then(zH,1)
   else(⟨h.node,qbX lk.1 m.2 h.state st.takes,h.steps+1,h.inn.set (indexL x 0 (ins h.node 0 ls)).toNat (l.take (posL m.1 l)++m::l.drop (posL m.1 l)),h.out⟩,0)
 | _,_=>(zH,1)
theorem qii {l:List (List (Int × Int))} {i0 b n i:Nat} (h0:i0 < l.length):(qav l i0 b n i)[i0]? =some [.ref b 0 0 n]:=by
 unfold qav
 have:(ir eMs (l.take i0)).length=i0:=by simp [ir];omega
 rw [List.getElem?_append_right (by omega),this,Nat.sub_self];rfl
theorem qij {l:List (List (Int × Int))} {i0 b n:Nat} (h0:i0 < l.length) {x:List (Int × Int)}:(qav l i0 b n l.length).set i0 [.p (.imm 2 (pr eII x))]=ir eMs (l.set i0 x):=by
 unfold qav
 have hl:(ir eMs (l.take i0)).length=i0:=by simp [ir];omega
 rw [List.set_append_right _ _ (by omega),hl,Nat.sub_self,List.set_cons_zero,List.take_of_length_le (Nat.le_refl _),List.set_eq_take_append_cons_drop,if_pos h0]
 simp [ir,eMs]
theorem qnG (q:Int): ∀l:List (Int × Int),posL q l≤l.length
 | []=>by simp [posL]
 | x::r=>by
   have:=qnG q r
   unfold posL
   split<;>simp<;>omega
theorem qrM {a b:Int}:ir eII [(a,b)]= [[sci .i64 a,sci .i64 b]]:=rfl
theorem qiQ {n l:Int}: ∀ {ls:List (Int × Int)} {i:Nat},l∈ins n i ls→ ∃j,∃hj:j < ls.length,l=((i+j:Nat):Int)∧ls[j].2=n
 | [],i,h=>by simp [ins] at h
 | x::r,i,h=>by
   unfold ins at h
   have go:l∈ins n (i+1) r→ ∃j,∃hj:j < (x::r).length,l=((i+j:Nat):Int)∧(x::r)[j].2=n:=fun h=>by
    obtain⟨j,hj,e1,e2⟩:=qiQ h
    exact⟨j+1,by simpa using hj,by rw [e1];congr 1;omega,by simpa using e2⟩
   split at h
   ·rename_i hx
    rcases List.mem_cons.1 h with h | h
    ·exact⟨0,by simp,by simpa using h,by simpa using hx⟩
    ·exact go h
   ·exact go h
@[go_sem] theorem qf2 {l:List (List (Int × Int))} {i0 k n i:Nat}:rnRw (ridx [] k) (qav l i0 1 n i)=qav l i0 (k+1) n i:=by
  unfold qav
  simp only [go_sem]
theorem qpd (s:Sc) (h:Hs) (x:Int) (m:Int × Int) (n j:Nat) (nd:Nd) (st:St) (hn:h.node=n) (hj:h.state=j) (hx:s.T[n]? =some nd) (hq:nd.states[j]? =some st) (hg:gHs h) (hl:s.ls.length≤1000000) (hk:st.takes.length≤1000000)
  (hi:h.inn.length=(ins h.node 0 s.ls).length) (hu: ∀l∈h.inn,UpH l∧l.length≤1000) (h0:0≤h.steps∧h.steps≤2147483647):
  Pure prog 29 [lApp s,lHs h,sci .i64 x, .agg [sci .i64 m.1,sci .i64 m.2]] (.tup [lHs (takeH s.ls st h x m).1,sci .i64 (takeH s.ls st h x m).2]):=by
 obtain⟨N,ls,T,ff,room,acts⟩:=s
 obtain⟨node,state,steps,inn,out⟩:=h
 obtain⟨q1,q2⟩:=m
 obtain⟨b2,b3,b4,b5⟩:=id hg
 simp only at hn hj hx hl hi hu h0 b2 b3 b4 b5
 subst hn hj
 generalize hres:takeH ls st ⟨n,j,steps,inn,out⟩ x (q1,q2)=res
 unfold takeH at hres
 simp only at hres
 refine pcall0 200 (fn:=f29) func29 rfl (by simp [ntmps29]) zB zB fun hs=>?_
 try refine zW ?_
 (refine zG ?_;refine callA_of (qc3 N n ls hl) zB ?_)
 try refine zO ?_
 (refine zG ?_;refine callA_of (qcU _ _) zB ?_;try refine zW ?_)
 by_cases c1:indexL x 0 (ins n 0 ls) < 0
 ·rw [if_pos (.inl c1)] at hres
  subst hres
  (try simp (maxSteps:=2000000) (disch:=omega) only [go_sem,simprocAttr,zD,zE,c1,zH])
 by_cases c2:q1 < 1
 ·rw [if_pos (.inr (.inl c2))] at hres
  subst hres
  (try simp (maxSteps:=2000000) (disch:=omega) only [go_sem,simprocAttr,zD,zE,c1,c2,zH])
 by_cases c3:500 < q1
 ·rw [if_pos (.inr (.inr (.inl c3)))] at hres
  subst hres
  (try simp (maxSteps:=2000000) (disch:=omega) only [go_sem,simprocAttr,zD,zE,c1,c2,c3,zH])
 by_cases c4:q2 < 0
 ·rw [if_pos (.inr (.inr (.inr (.inl c4))))] at hres
  subst hres
  (try simp (maxSteps:=2000000) (disch:=omega) only [go_sem,simprocAttr,zD,zE,c1,c2,c3,c4,zH])
 by_cases c5:4≤q2
 ·rw [if_pos (.inr (.inr (.inr (.inr c5))))] at hres
  subst hres
  (try simp (maxSteps:=2000000) (disch:=omega) only [go_sem,simprocAttr,zD,zE,c1,c2,c3,c4,c5,zH])
 rw [if_neg (fun q=>q.elim c1 fun q=>q.elim c2 fun q=>q.elim c3 fun q=>q.elim c4 c5)] at hres
 rcases indexL_at x (ins n 0 ls) with e | ⟨i,e,hil,hig⟩
 ·exact absurd (by omega) c1
 have lin:i < inn.length:=by omega
 rw [e,Int.toNat_natCast,List.getElem?_eq_getElem lin] at hres
 obtain⟨kx,hkx,rfl,hlk⟩:=qiQ (List.mem_of_getElem? hig)
 simp only [Nat.zero_add] at hig e hres
 rw [Int.toNat_natCast,List.getElem?_eq_getElem hkx] at hres
 simp only at hres
 obtain⟨hup,hrl⟩:=hu _ (List.getElem_mem lin)
 have hblk:=qox ⟨n,j,steps,inn,out⟩ hg i lin
 simp only at hblk
 generalize hrow:inn[i]=row at *
 generalize hlx:ls[kx]=lk at *
 obtain⟨la,lb⟩:=lk
 have c1': ¬((i:Int) < 0):=by omega
 (try simp (maxSteps:=2000000) (disch:=omega) only [go_sem,simprocAttr,zD,zE,e,c1',c2,c3,c4,c5])
 (refine zM [2,4,5,7,8,10] ?_;refine zI [none,none,none,none,none,none,none,some [],none,none,none,none,none] ?_)
 (try simp (maxSteps:=2000000) (disch:=omega) only [go_sem,simprocAttr,zD,zE,eMs,hrow])
 (refine zF ?_;refine callA_of (qrm row q1 hup hrl) zB ?_;try refine zW ?_)
 cases hf:tB (∃y,row[posL q1 row]? =some y∧y.fst=q1) with
 | true=>
   rw [hf,if_pos rfl] at hres
   subst hres
   (try simp (maxSteps:=2000000) (disch:=omega) only [go_sem,simprocAttr,zD,zE,hf,zH])
 | false=>
   rw [hf,if_neg (by decide)] at hres
   subst hres
   (try simp (maxSteps:=2000000) (disch:=omega) only [go_sem,simprocAttr,zD,zE,hf])
   (refine qhB 200 ?_;refine zW ?_;refine callG_of [] (hblk) zU ?_;try refine zW ?_)
   have hg1:=qii (l:=inn) (i0:=i) (b:=5) (n:=row.length) (i:=inn.length) lin
   try refine zO ?_
   (refine walk_trim [2,4,5,7,8,10,11,13,45] trivial zL ?_;((try refine zW ?_);(try with_reducible exact True.intro)))
   refine qhY (id:=8) (n:=200) [none,none,none,none,none,none,none,none,none,none,some [0,1,2,3,4,5,6,7,8],some [0,1,2],none,some []] mixed (by kernel_rfl) (qeX 10 ?_)
   simp only [List.take_succ_cons,List.take_zero,List.drop_succ_cons,List.drop_zero]
   (try simp (maxSteps:=2000000) only [go_sem,simprocAttr,lin,hg1])
   refine qql (zs:= [(0, .agg [sci .i64 q1,sci .i64 q2])]) (sz:=2) (cs:= [sci .i64 q1,sci .i64 q2]) ?_ ?_ ?_ ?_ ?_
   ·rfl
   ·((try refine zW ?_);(try with_reducible exact True.intro))
   ·(try simp (maxSteps:=2000000) only [go_sem,simprocAttr,flit])
   ·rfl
   (try simp (maxSteps:=2000000) only [go_sem,simprocAttr,chunk])
   (refine qaM ?_;refine zW ?_;refine callG_of [5,7] (qmc row (q1,q2) (posL q1 row) (qnG q1 row) (by omega)) (by simp (maxSteps:=2000000) (disch:=omega) only [go_sem,simprocAttr,zD,zE,qrM]) ?_)
   (try simp (maxSteps:=2000000) only [go_sem,simprocAttr,lin,hg1,qij lin])
   (refine zM [2,4,5,7,8,13,45] ?_;refine zI [none,none,none,none,none,none,none,none,none,none,none,none,none,none,none,some [],none,some []] ?_)
   (try simp (maxSteps:=2000000) (disch:=omega) only [go_sem,simprocAttr,zD,zE,hlx,eII])
   (refine zF ?_;refine callA_of (qom T n j nd st hx hq la q2 hk) zB ?_)
   try refine zO ?_
   rw [List.take_of_length_le (by simp)]
theorem qqv {G:Nat→Option IBlk} {ids:List Nat} {rs:List (List IV)} {i:Nat} {r r':List IV} (h:fws G ids r r'):fwRs G ids (rs.set i r) (rs.set i r'):=by
 refine .inr ⟨by simp,fun k a b ha hb=>?_⟩
 rw [List.getElem?_set] at ha hb
 by_cases e:i=k
 ·subst e
  rw [if_pos rfl] at ha hb
  split at ha
  ·rename_i c
   rw [if_pos c] at hb
   cases ha;cases hb;exact h
  ·cases ha
 ·rw [if_neg e] at ha hb
  rw [ha] at hb
  cases hb
  exact fws_self a
end Go.Proofs.NO
/- What a host tells without logs. -/
namespace Go.Proofs.NO
open Go Go.Idl Go.Proofs Go.Proofs.Tryz
set_option maxHeartbeats 20000000
set_option maxRecDepth 100000
theorem pvs2_rep0: ∀n:Nat,pvs2 (List.replicate n [nil0])=some (List.replicate n [.sc (.slice none 0 0)])
 | 0=>rfl
 | n+1=>by simp only [List.replicate_succ,pvs2,pvs,pvs2_rep0 n];rfl
theorem qfd (n:Nat):pvs2 (List.take n (List.replicate n [nil0]))=some (List.replicate n [.sc (.slice none 0 0)]):=by
 rw [List.take_of_length_le (by simp),pvs2_rep0]
theorem qmO (h:Hs) (hg:gHs h):Pure prog 84 [lHs h,scb false] (.agg [sci .i64 h.node,sci .i64 h.state,sci .i64 h.steps,lI (h.out.map fun l=>(l.length:Int)), .p (.imm 1 (List.replicate h.inn.length [.sc (.slice none 0 0)])),nil0]):=by
 have hg2:=hg
 obtain⟨node,state,steps,inn,out⟩:=h
 obtain⟨h2,h3,h4,h5⟩:=hg
 simp only at h2 h3 h4 h5
 refine pcall0 200 (fn:=f84) func84 rfl (by simp [ntmps84]) zB zB fun hs=>?_
 try refine zW ?_
 (refine zG ?_;refine callA_of (qfj ⟨node,state,steps,inn,out⟩) zB ?_)
 try refine zW ?_
 (refine qkX 200 ?_;refine zW ?_;refine callA_of (qi7 ⟨node,state,steps,inn,out⟩ hg2) zB ?_)
 try refine zO ?_
 refine walk_ownB 2 0 3 1 trivial rfl rfl rfl (.inr rfl) ?_
 simp only [List.set_cons_zero,List.set_cons_succ,Nat.reduceAdd]
 obtain⟨X,hX⟩: ∃X:List Int,X=out.map fun l=>(l.length:Int):=⟨_,rfl⟩
 have hXl:X.length=out.length:=by rw [hX,List.length_map]
 have hXs: ∀(i:Nat) (li:i < out.length),X.take (i+1)=X.take i++ [(out[i].length:Int)]:=fun i li=>by
  rw [hX,List.take_succ_eq_append_getElem (by rw [List.length_map];exact li),List.getElem_map]
 rw [←hX]
 clear hX
 (refine walk_trim [4,5,20,21,22,75] trivial zL ?_;((try refine zW ?_);(try with_reducible exact True.intro)))
 refine qac 200 200 (fun i:Nat × Nat=>i.1≤out.length)
  (fun i=>⟨35, [(4, .ptr 1 0 0 0),(5, .ptr 2 0 0 0),(20,lLs out),(21,sci .i64 out.length),(22,sci .i64 i.1)], [],5, [(4, .arr 1 i.2 (ir eI (X.take i.1))),(3, .arr 1 0 (List.replicate inn.length [nil0])),(2, .arr 6 0 [[sci .i64 node,sci .i64 state,sci .i64 steps, .ref 4 i.2 0 i.1, .ref 3 0 0 inn.length,nil0]]),(1, .arr 6 0 [[sci .i64 0,sci .i64 0,sci .i64 0,nil0,nil0,nil0]]),(0, .arr 5 0 [[sci .i64 node,sci .i64 state,sci .i64 steps,lMs inn,lLs out]])]⟩) (fun i=>out.length - i.1) (0,0) [] ?_ ?_ ?_
 ·simp
 ·constructor<;>(try simp (maxSteps:=2000000) (disch:=omega) only [go_sem,simprocAttr,zD,zE,Int.natCast_zero,List.take_of_length_le,List.append_assoc,List.take_zero])
 ·rintro⟨i,g⟩ hi
  simp only at hi
  try refine zW ?_
  by_cases li:i < out.length
  ·have hl5:=h5 out[i] (List.getElem_mem li)
   have hpt:X.take (i+1)=X.take i++ [(out[i].length:Int)]:=hXs i li
   have htt:(X.take i).length=i:=by rw [List.length_take];omega
   have hti:(X.take i).take i=X.take i:=by rw [List.take_take,Nat.min_self]
   (try simp (maxSteps:=2000000) (disch:=omega) only [go_sem,simprocAttr,zD,zE,eLs,htt])
   refine⟨(i+1,g+1), [],by first | assumption | omega,?_,?_⟩
   ·(try simp only []);omega
   ·constructor<;>(try simp (maxSteps:=2000000) (disch:=omega) only [go_sem,simprocAttr,zD,zE,hpt,hti,ir_snoc,List.map_cons,List.map_nil,List.append_assoc])
  ·obtain rfl:i=out.length:=by omega
   have e:X.take out.length=X:=List.take_of_length_le (by omega)
   (try simp (maxSteps:=2000000) (disch:=omega) only [go_sem,simprocAttr,zD,zE,e,qfd])
end Go.Proofs.NO
