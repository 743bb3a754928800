/- Facts that the proofs of this claim lean on. -/
import Derived.Test.YteebghpjgcacmaaGreatYPD
import Derived.Test.YteebghpjgcacmaaGreatGN
set_option linter.unusedSimpArgs false
set_option linter.unusedVariables false
/- Pieces put in order: the sort in place. -/
namespace Go.Proofs.GY
open Go Go.Idl Go.Proofs Go.GN
set_option maxHeartbeats 20000000
set_option maxRecDepth 100000
def cmpI (a b:Int):Int:=if a < b then -1 else if b < a then 1 else 0
theorem isNaNi_spec (a:Int):Pure Tryz.prog 91 [sci .i64 a] (scb false):=by
 refine pcall0 200 (fn:=Tryz.f91) Tryz.func91 rfl (by simp [Tryz.ntmps91]) zB zB fun hs=>?_
 (repeat(first | ((refine zW ?_;try with_reducible exact True.intro))))
theorem CompareI_spec (a b:Int):Pure Tryz.prog 49 [sci .i64 a,sci .i64 b] (sci .i64 (cmpI a b)):=by
 refine pcall0 200 (fn:=Tryz.f49) Tryz.func49 rfl (by simp [Tryz.ntmps49]) zB zB fun hs=>?_
 unfold cmpI
 by_cases h1:a < b
 ·(repeat(first | ((refine zW ?_;try with_reducible exact True.intro)) | (refine at_call 200 ?_;(refine zW ?_;try with_reducible exact True.intro);refine callA_of (isNaNi_spec _) zB ?_;((try refine zW ?_);(try with_reducible exact True.intro))) | (refine at_dcall ?_;(refine zW ?_;try with_reducible exact True.intro);refine callA_of (isNaNi_spec _) zB ?_;((try refine zW ?_);(try with_reducible exact True.intro))) | (refine at_call 200 ?_;(refine zW ?_;try with_reducible exact True.intro);refine callA_view ?_;(refine zW ?_;try with_reducible exact True.intro);refine callV_of (isNaNi_spec _) (by first | rfl | (split<;>rfl)) ?_;((try refine zW ?_);(try with_reducible exact True.intro))) | (refine at_dcall ?_;(refine zW ?_;try with_reducible exact True.intro);refine callA_view ?_;(refine zW ?_;try with_reducible exact True.intro);refine callV_of (isNaNi_spec _) (by first | rfl | (split<;>rfl)) ?_;((try refine zW ?_);(try with_reducible exact True.intro)))))
  ((try refine zO ?_);(try with_reducible exact True.intro))
  (repeat(first | ((refine zW ?_;try with_reducible exact True.intro)) | (refine at_call 200 ?_;(refine zW ?_;try with_reducible exact True.intro);refine callA_of (isNaNi_spec _) zB ?_;((try refine zW ?_);(try with_reducible exact True.intro))) | (refine at_dcall ?_;(refine zW ?_;try with_reducible exact True.intro);refine callA_of (isNaNi_spec _) zB ?_;((try refine zW ?_);(try with_reducible exact True.intro))) | (refine at_call 200 ?_;(refine zW ?_;try with_reducible exact True.intro);refine callA_view ?_;(refine zW ?_;try with_reducible exact True.intro);refine callV_of (isNaNi_spec _) (by first | rfl | (split<;>rfl)) ?_;((try refine zW ?_);(try with_reducible exact True.intro))) | (refine at_dcall ?_;(refine zW ?_;try with_reducible exact True.intro);refine callA_view ?_;(refine zW ?_;try with_reducible exact True.intro);refine callV_of (isNaNi_spec _) (by first | rfl | (split<;>rfl)) ?_;((try refine zW ?_);(try with_reducible exact True.intro)))))
 ·by_cases h2:b < a
  ·(repeat(first | ((refine zW ?_;try with_reducible exact True.intro)) | (refine at_call 200 ?_;(refine zW ?_;try with_reducible exact True.intro);refine callA_of (isNaNi_spec _) zB ?_;((try refine zW ?_);(try with_reducible exact True.intro))) | (refine at_dcall ?_;(refine zW ?_;try with_reducible exact True.intro);refine callA_of (isNaNi_spec _) zB ?_;((try refine zW ?_);(try with_reducible exact True.intro))) | (refine at_call 200 ?_;(refine zW ?_;try with_reducible exact True.intro);refine callA_view ?_;(refine zW ?_;try with_reducible exact True.intro);refine callV_of (isNaNi_spec _) (by first | rfl | (split<;>rfl)) ?_;((try refine zW ?_);(try with_reducible exact True.intro))) | (refine at_dcall ?_;(refine zW ?_;try with_reducible exact True.intro);refine callA_view ?_;(refine zW ?_;try with_reducible exact True.intro);refine callV_of (isNaNi_spec _) (by first | rfl | (split<;>rfl)) ?_;((try refine zW ?_);(try with_reducible exact True.intro)))))
   ((try refine zO ?_);(try with_reducible exact True.intro))
   (repeat(first | ((refine zW ?_;try with_reducible exact True.intro)) | (refine at_call 200 ?_;(refine zW ?_;try with_reducible exact True.intro);refine callA_of (isNaNi_spec _) zB ?_;((try refine zW ?_);(try with_reducible exact True.intro))) | (refine at_dcall ?_;(refine zW ?_;try with_reducible exact True.intro);refine callA_of (isNaNi_spec _) zB ?_;((try refine zW ?_);(try with_reducible exact True.intro))) | (refine at_call 200 ?_;(refine zW ?_;try with_reducible exact True.intro);refine callA_view ?_;(refine zW ?_;try with_reducible exact True.intro);refine callV_of (isNaNi_spec _) (by first | rfl | (split<;>rfl)) ?_;((try refine zW ?_);(try with_reducible exact True.intro))) | (refine at_dcall ?_;(refine zW ?_;try with_reducible exact True.intro);refine callA_view ?_;(refine zW ?_;try with_reducible exact True.intro);refine callV_of (isNaNi_spec _) (by first | rfl | (split<;>rfl)) ?_;((try refine zW ?_);(try with_reducible exact True.intro)))))
  ·(repeat(first | ((refine zW ?_;try with_reducible exact True.intro)) | (refine at_call 200 ?_;(refine zW ?_;try with_reducible exact True.intro);refine callA_of (isNaNi_spec _) zB ?_;((try refine zW ?_);(try with_reducible exact True.intro))) | (refine at_dcall ?_;(refine zW ?_;try with_reducible exact True.intro);refine callA_of (isNaNi_spec _) zB ?_;((try refine zW ?_);(try with_reducible exact True.intro))) | (refine at_call 200 ?_;(refine zW ?_;try with_reducible exact True.intro);refine callA_view ?_;(refine zW ?_;try with_reducible exact True.intro);refine callV_of (isNaNi_spec _) (by first | rfl | (split<;>rfl)) ?_;((try refine zW ?_);(try with_reducible exact True.intro))) | (refine at_dcall ?_;(refine zW ?_;try with_reducible exact True.intro);refine callA_view ?_;(refine zW ?_;try with_reducible exact True.intro);refine callV_of (isNaNi_spec _) (by first | rfl | (split<;>rfl)) ?_;((try refine zW ?_);(try with_reducible exact True.intro)))))
   ((try refine zO ?_);(try with_reducible exact True.intro))
   (repeat(first | ((refine zW ?_;try with_reducible exact True.intro)) | (refine at_call 200 ?_;(refine zW ?_;try with_reducible exact True.intro);refine callA_of (isNaNi_spec _) zB ?_;((try refine zW ?_);(try with_reducible exact True.intro))) | (refine at_dcall ?_;(refine zW ?_;try with_reducible exact True.intro);refine callA_of (isNaNi_spec _) zB ?_;((try refine zW ?_);(try with_reducible exact True.intro))) | (refine at_call 200 ?_;(refine zW ?_;try with_reducible exact True.intro);refine callA_view ?_;(refine zW ?_;try with_reducible exact True.intro);refine callV_of (isNaNi_spec _) (by first | rfl | (split<;>rfl)) ?_;((try refine zW ?_);(try with_reducible exact True.intro))) | (refine at_dcall ?_;(refine zW ?_;try with_reducible exact True.intro);refine callA_view ?_;(refine zW ?_;try with_reducible exact True.intro);refine callV_of (isNaNi_spec _) (by first | rfl | (split<;>rfl)) ?_;((try refine zW ?_);(try with_reducible exact True.intro)))))
theorem cmpP_spec (p q:Pc):Pure Tryz.prog 48 [lPc p,lPc q] (sci .i64 (cmpI p.node q.node)):=by
 refine pcall0 200 (fn:=Tryz.f48) Tryz.func48 rfl (by simp [Tryz.ntmps48]) zB zB fun hs=>?_
 ((try refine zW ?_);(try with_reducible exact True.intro))
 (refine at_call 200 ?_;(refine zW ?_;try with_reducible exact True.intro);refine callA_of (CompareI_spec _ _) zB ?_;((try refine zW ?_);(try with_reducible exact True.intro)))
abbrev cmpF:IV:= .p (.sc (.func (.func 48) #[] #[]))
@[go_sem] theorem tcsF:tcs Tryz.prog 104= []:=by kernel_rfl
@[go_sem] theorem tcsG:tcs Tryz.prog 96= []:=by kernel_rfl
def ltP (x y:Pc):Bool:=decide (x.node < y.node)
theorem cmp_lt (p q:Pc):decide (cmpI p.node q.node < 0)=ltP p q:=by
 unfold cmpI ltP
 by_cases h1:p.node < q.node
 ·simp [h1]
 ·rw [if_neg h1]
  split<;>simp [h1]
def sinkA {α:Type} (lt:α→α→Bool) (a:Nat):Nat→List α→List α
 | 0,l=>l
 | d+1,l=>match l[a+d+1]?,l[a+d]? with
   | some x,some y=>if lt x y then sinkA lt a d (swp l (a+d) x y) else l
   | _,_=>l
def insA {α:Type} (lt:α→α→Bool) (a:Nat):Nat→Nat→List α→List α
 | 0,_,l=>l
 | f+1,d,l=>insA lt a f (d+1) (sinkA lt a d l)
theorem sinkA_at {α:Type} {lt:α→α→Bool} {a d:Nat} {M:List α} (hx:a+d+1 < M.length) (hy:a+d < M.length):sinkA lt a (d+1) M=if lt M[a+d+1] M[a+d]=true then sinkA lt a d (swp M (a+d) M[a+d+1] M[a+d]) else M:=by
 rw [sinkA,List.getElem?_eq_getElem hx,List.getElem?_eq_getElem hy]
@[go_sem] theorem ir_setP {l:List Pc} {i:Nat} {p:Pc}:(ir ePc l).set i [.p (.sc (.int .i64 p.node)), .p (.sc (.int .i64 p.state)), .p (.sc (.int .i64 p.steps)), .p (.imm 1 (pr eI p.sent)), .p (.imm 1 (pr eMs p.inn)), .p (.imm 1 (pr eLs p.out))]=ir ePc (l.set i p):=ir_set (f:=ePc) (a:=p)
abbrev pB (g:Nat) (l:List Pc):IBlk:= .arr 6 g (ir ePc l)
theorem insertion_spec (g a b:Nat) (l:List Pc) (hab:a≤b) (hb:b≤l.length) (hn:l.length < 1000):
  PG Tryz.prog 118 [.ref 0 g 0 l.length,sci .i64 (a:Int),sci .i64 (b:Int),cmpF] [pB g l] 0 (.tup []) [(0,pB g (insA ltP a (b - (a+1)) 1 l))]:=by
 generalize hres:insA ltP a (b - (a+1)) 1 l=res
 refine pg_of 200 (fn:=Tryz.f118) Tryz.func118 rfl (by simp [Tryz.ntmps118]) 1 rfl zC zC zC zC zC fun hs=>?_
 ((try refine zW ?_);(try with_reducible exact True.intro))
 refine walk_loop 200 200 (fun p:Nat × List Pc=>a+1≤p.1∧(p.1≤b∨p.1=a+1)∧p.2.length=l.length∧insA ltP a (b - p.1) (p.1 - a) p.2=res)
  (fun p=>⟨53, [(0, .ref 0 g 0 l.length),(1,sci .i64 (a:Int)),(2,sci .i64 (b:Int)),(3,cmpF),(8,sci .i64 (p.1:Int))], [],1, [(0,pB g p.2)]⟩) (fun p=>b - p.1) (a+1,l) ?_ ?_ ?_
 ·refine⟨Nat.le_refl _, .inr rfl,rfl,?_⟩
  rw [show a+1 - a=1 by omega];exact hres
 ·constructor<;>(try simp (maxSteps:=2000000) (disch:=omega) only [go_sem,simprocAttr,zD,zE,Int.natCast_one])
 ·rintro⟨i,L⟩ ⟨i1,i2,i3,i5⟩
  simp only at i1 i2 i3 i5
  ((try refine zW ?_);(try with_reducible exact True.intro))
  by_cases hi:i < b
  ·have hi':(i:Int) < (b:Int):=by omega
   (try simp (maxSteps:=2000000) (disch:=omega) only [go_sem,simprocAttr,zD,zE,hi'])
   refine walk_loop 200 200 (fun p:Nat × List Pc=>a≤p.1∧p.1≤i∧p.2.length=l.length∧sinkA ltP a (p.1 - a) p.2=sinkA ltP a (i - a) L)
    (fun p=>⟨53, [(0, .ref 0 g 0 l.length),(1,sci .i64 (a:Int)),(2,sci .i64 (b:Int)),(3,cmpF),(8,sci .i64 (i:Int)),(9,sci .i64 (p.1:Int))], [],1, [(0,pB g p.2)]⟩) (fun p=>p.1) (i,L) ?_ ?_ ?_
   ·exact⟨by simp only;omega,Nat.le_refl _,i3,rfl⟩
   ·constructor<;>((try refine zO ?_);(try with_reducible exact True.intro))
   ·rintro⟨j,M⟩ ⟨j0,j1,j2,j4⟩
    simp only at j0 j1 j2 j4
    ((try refine zW ?_);(try with_reducible exact True.intro))
    (refine walk_trim [0,1,2,3,8,9] trivial zL ?_;(refine zW ?_;try with_reducible exact True.intro);refine irun_walk (id:=4) (n:=200) [none,none,none,none,none,none,none,none,none,none,none,none,none,none,some [],none,none] mixed (by kernel_rfl) ?_)
    by_cases hja:j=a
    ·subst hja
     ((try refine zO ?_);(try with_reducible exact True.intro))
     have e0:M=sinkA ltP j (i - j) L:=by rw [←j4,Nat.sub_self];rfl
     refine⟨(i+1,M),⟨by simp only;omega, .inl (by simp only;omega),j2,?_⟩,by simp only;omega,?_⟩
     ·rw [show b - i=(b - (i+1))+1 by omega] at i5
      simp only
      rw [e0,show i+1 - j=(i - j)+1 by omega]
      exact i5
     ·constructor<;>((try refine zO ?_);(try with_reducible exact True.intro))
    ·obtain⟨j,rfl⟩: ∃k,j=k+1:=⟨j - 1,by omega⟩
     have hx:j+1 < M.length:=by omega
     have hy:j < M.length:=by omega
     have hgt:(a:Int) < (j:Int)+1:=by omega
     have tn:((j:Int)+1).toNat=j+1:=rfl
     have hsx:a+(j - a)+1 < M.length:=by omega
     have hsy:a+(j - a) < M.length:=by omega
     have e1:=sinkA_at (lt:=ltP) hsx hsy
     simp only [show a+(j - a)=j by omega] at e1
     rw [show j - a+1=j+1 - a by omega,j4] at e1
     (try simp (maxSteps:=2000000) (disch:=omega) only [go_sem,simprocAttr,zD,zE,hgt,tn,Int.add_sub_cancel,ePc])
     (refine at_dcall ?_;(refine zW ?_;try with_reducible exact True.intro);refine callA_of (cmpP_spec M[j+1] M[j]) zB ?_;((try refine zW ?_);(try with_reducible exact True.intro)))
     ((try refine zO ?_);(try with_reducible exact True.intro))
     by_cases hc:ltP M[j+1] M[j]=true
     ·have hc3:decide (cmpI M[j+1].node M[j].node < 0)=true:=by rw [cmp_lt];exact hc
      rw [if_pos hc] at e1
      (try simp (maxSteps:=2000000) (disch:=omega) only [go_sem,simprocAttr,zD,zE,hc3])
      (refine walk_trim [0,1,2,3,8,9] trivial zL ?_;(refine zW ?_;try with_reducible exact True.intro);refine irun_walk (id:=6) (n:=200) [none,none,none,none,none,none,none,none,none,none,none,none,none,none,none,some [2,3,4],none,some []] mixed (by kernel_rfl) ?_)
      have e2:(ir ePc (M.set (j+1) M[j]))[j]? =some ((ePc M[j]).map .p):=ir_get' (by rw [List.getElem?_set_ne (by omega),List.getElem?_eq_getElem hy])
      (try simp (maxSteps:=2000000) (disch:=omega) only [go_sem,simprocAttr,zD,zE,ePc,tn,Int.add_sub_cancel,e2])
      refine⟨(j,swp M j M[j+1] M[j]),⟨by simp only;omega,by simp only;omega,by rw [swp_len];exact j2,e1.symm⟩,by simp,?_⟩
      constructor<;>(try simp (maxSteps:=2000000) (disch:=omega) only [go_sem,simprocAttr,zD,zE,swp,Int.add_sub_cancel])
     ·have hc3:decide (cmpI M[j+1].node M[j].node < 0)=false:=by rw [cmp_lt];simpa using hc
      rw [if_neg hc] at e1
      (try simp (maxSteps:=2000000) (disch:=omega) only [go_sem,simprocAttr,zD,zE,hc3])
      refine⟨(i+1,M),⟨by simp only;omega, .inl (by simp only;omega),j2,?_⟩,by simp only;omega,?_⟩
      ·rw [show b - i=(b - (i+1))+1 by omega] at i5
       simp only
       rw [←e1,show i+1 - a=(i - a)+1 by omega]
       exact i5
      ·constructor<;>((try refine zO ?_);(try with_reducible exact True.intro))
  ·have hi': ¬((i:Int) < (b:Int)):=by omega
   (try simp (maxSteps:=2000000) (disch:=omega) only [go_sem,simprocAttr,zD,zE,hi'])
   rw [show b - i=0 by omega] at i5
   have e0:L=res:=i5
   rw [e0]
   ((try refine zW ?_);(try with_reducible exact True.intro))
end Go.Proofs.GY
/- Plain law of merging in place: ranges swapped, rotated, merged. -/
namespace Go.GN
section
variable {α:Type}
def swR (a b:Nat):Nat→List α→List α
 | 0,M=>M
 | i+1,M=>match(swR a b i M)[b+i]?,(swR a b i M)[a+i]? with
   | some y,some x=>((swR a b i M).set (a+i) y).set (b+i) x
   | _,_=>swR a b i M
theorem swR_len (a b:Nat): ∀(i:Nat) (M:List α),(swR a b i M).length=M.length
 | 0,M=>rfl
 | i+1,M=>by
   rw [swR]
   split
   ·simp [swR_len a b i M]
   ·exact swR_len a b i M
theorem swR_at {a b i:Nat} {M:List α} (h1:b+i < (swR a b i M).length) (h2:a+i < (swR a b i M).length):
  swR a b (i+1) M=((swR a b i M).set (a+i) (swR a b i M)[b+i]).set (b+i) (swR a b i M)[a+i]:=by
 rw [swR,List.getElem?_eq_getElem h1,List.getElem?_eq_getElem h2]
theorem swR_eq: ∀(i:Nat) (P X1 X2 Q Y1 Y2 S:List α),X1.length=i→Y1.length=i→
  swR P.length (P.length+X1.length+X2.length+Q.length) i (P++X1++X2++Q++Y1++Y2++S)=P++Y1++X2++Q++X1++Y2++S
 | 0,P,X1,X2,Q,Y1,Y2,S,h1,h2=>by
   have e1:X1= []:=List.eq_nil_of_length_eq_zero h1
   have e2:Y1= []:=List.eq_nil_of_length_eq_zero h2
   subst e1 e2
   simp [swR]
 | i+1,P,X1,X2,Q,Y1,Y2,S,h1,h2=>by
   obtain⟨X,x,rfl⟩: ∃X x,X1=X++ [x]:=⟨X1.dropLast,X1.getLast (by rintro rfl;simp at h1),(List.dropLast_concat_getLast _).symm⟩
   obtain⟨Y,y,rfl⟩: ∃Y y,Y1=Y++ [y]:=⟨Y1.dropLast,Y1.getLast (by rintro rfl;simp at h2),(List.dropLast_concat_getLast _).symm⟩
   simp only [List.length_append,List.length_cons,List.length_nil] at h1 h2
   have hX:X.length=i:=by omega
   have hY:Y.length=i:=by omega
   have ih:=swR_eq i P X (x::X2) Q Y (y::Y2) S hX hY
   have eM:P++(X++ [x])++X2++Q++(Y++ [y])++Y2++S=P++X++(x::X2)++Q++Y++(y::Y2)++S:=by simp
   have eb:P.length+(X++ [x]).length+X2.length+Q.length=P.length+X.length+(x::X2).length+Q.length:=by simp;omega
   rw [swR,eM,eb,ih]
   have g1:(P++Y++x::X2++Q++X++y::Y2++S)[P.length+X.length+(x::X2).length+Q.length+i]? =some y:=by
    rw [List.append_assoc,List.getElem?_append_right (by simp;omega)]
    simp only [List.length_append,List.length_cons]
    rw [show P.length+X.length+(X2.length+1)+Q.length+i - (P.length+Y.length+(X2.length+1)+Q.length+X.length)=0 by omega]
    simp
   have g2:(P++Y++x::X2++Q++X++y::Y2++S)[P.length+i]? =some x:=by
    simp only [List.append_assoc]
    rw [←List.append_assoc,List.getElem?_append_right (by simp;omega)]
    simp only [List.length_append]
    rw [show P.length+i - (P.length+Y.length)=0 by omega]
    simp
   rw [g1,g2]
   simp only
   have s1:(P++Y++x::X2++Q++X++y::Y2++S).set (P.length+i) y=P++Y++y::X2++Q++X++y::Y2++S:=by
    simp only [List.append_assoc]
    rw [←List.append_assoc,List.set_append_right _ _ (by simp;omega)]
    simp only [List.length_append]
    rw [show P.length+i - (P.length+Y.length)=0 by omega]
    simp
   rw [s1,List.append_assoc,List.set_append_right _ _ (by simp;omega)]
   simp only [List.length_append,List.length_cons]
   rw [show P.length+X.length+(X2.length+1)+Q.length+i - (P.length+Y.length+(X2.length+1)+Q.length+X.length)=0 by omega]
   simp
theorem swR_all (P X Q Y S:List α) (h:X.length=Y.length):swR P.length (P.length+X.length+Q.length) X.length (P++X++Q++Y++S)=P++Y++Q++X++S:=by
 have:=swR_eq X.length P X [] Q Y [] S rfl h.symm
 simpa using this
theorem merge_split {le:α→α→Bool}: ∀(A1 B1 A2 B2:List α),(∀x∈A1,∀y∈B2,le x y=true)→(∀x∈A2,∀y∈B1,le x y=false)→
  List.merge (A1++A2) (B1++B2) le=List.merge A1 B1 le++List.merge A2 B2 le
 | [], [],A2,B2,_,_=>by simp
 | x::A1, [],A2,B2,h1,h2=>by
   have ih:=merge_split A1 [] A2 B2 (fun z hz=>h1 z (List.mem_cons_of_mem _ hz)) h2
   cases B2 with
   | nil=>simp
   | cons y B2=>
     have hle:=h1 x (List.mem_cons_self ..) y (List.mem_cons_self ..)
     simp only [List.nil_append,List.cons_append] at ih ⊢
     rw [List.cons_merge_cons_pos _ _ _ hle,ih]
     simp
 | [],y::B1,A2,B2,h1,h2=>by
   have ih:=merge_split [] B1 A2 B2 h1 (fun z hz w hw=>h2 z hz w (List.mem_cons_of_mem _ hw))
   cases A2 with
   | nil=>simp
   | cons x A2=>
     have hle:=h2 x (List.mem_cons_self ..) y (List.mem_cons_self ..)
     simp only [List.nil_append,List.cons_append] at ih ⊢
     rw [List.cons_merge_cons_neg _ _ _ (by rw [hle];decide),ih]
     simp
 | x::A1,y::B1,A2,B2,h1,h2=>by
   by_cases hle:le x y=true
   ·have ih:=merge_split A1 (y::B1) A2 B2 (fun z hz=>h1 z (List.mem_cons_of_mem _ hz)) h2
    simp only [List.cons_append] at ih ⊢
    rw [List.cons_merge_cons_pos _ _ _ hle,List.cons_merge_cons_pos _ _ _ hle,ih]
    rfl
   ·have ih:=merge_split (x::A1) B1 A2 B2 h1 (fun z hz w hw=>h2 z hz w (List.mem_cons_of_mem _ hw))
    simp only [List.cons_append] at ih ⊢
    rw [List.cons_merge_cons_neg _ _ _ hle,List.cons_merge_cons_neg _ _ _ hle,ih]
    rfl
termination_by A1 B1=>A1.length+B1.length
end
end Go.GN
/- Ranges of pieces swapped, rotated. -/
namespace Go.Proofs.GY
open Go Go.Idl Go.Proofs Go.GN
set_option maxHeartbeats 20000000
set_option maxRecDepth 100000
theorem swap_spec (g a b k:Nat) (l:List Pc) (hab:a+k≤b) (hb:b+k≤l.length) (hn:l.length < 1000):
  PG Tryz.prog 150 [.ref 0 g 0 l.length,sci .i64 (a:Int),sci .i64 (b:Int),sci .i64 (k:Int),cmpF] [pB g l] 0 (.tup []) [(0,pB g (swR a b k l))]:=by
 refine pg_of 200 (fn:=Tryz.f150) Tryz.func150 rfl (by simp [Tryz.ntmps150]) 1 rfl zC zC zC zC zC fun hs=>?_
 ((try refine zW ?_);(try with_reducible exact True.intro))
 refine walk_loop 200 200 (fun i:Nat=>i≤k)
  (fun i=>⟨38, [(0, .ref 0 g 0 l.length),(1,sci .i64 (a:Int)),(2,sci .i64 (b:Int)),(3,sci .i64 (k:Int)),(10,sci .i64 (i:Int))], [],1, [(0,pB g (swR a b i l))]⟩) (fun i=>k - i) 0 (Nat.zero_le _) ?_ ?_
 ·constructor<;>(try simp (maxSteps:=2000000) (disch:=omega) only [go_sem,simprocAttr,zD,zE,Int.natCast_zero,swR])
 ·intro i hi
  ((try refine zW ?_);(try with_reducible exact True.intro))
  have hl:=swR_len a b i l
  have e1:(l.length=(swR a b i l).length):=hl.symm
  by_cases li:i < k
  ·have hA:a+i < (swR a b i l).length:=by omega
   have hB:b+i < (swR a b i l).length:=by omega
   have es:=swR_at hB hA
   generalize hM:swR a b i l=M at *
   have li':(i:Int) < (k:Int):=by omega
   have ta:((a:Int)+(i:Int)).toNat=a+i:=by omega
   have tb:((b:Int)+(i:Int)).toNat=b+i:=by omega
   have ga:(ir ePc M)[((a:Int)+(i:Int)).toNat]? =some ((ePc M[a+i]).map .p):=by rw [ta];exact ir_get' (List.getElem?_eq_getElem hA)
   have gb:(ir ePc M)[((b:Int)+(i:Int)).toNat]? =some ((ePc M[b+i]).map .p):=by rw [tb];exact ir_get' (List.getElem?_eq_getElem hB)
   have gb2:(ir ePc (M.set (a+i) M[b+i]))[b+i]? =some ((ePc M[b+i]).map .p):=by
    exact ir_get' (by rw [List.getElem?_set_ne (by omega),List.getElem?_eq_getElem hB])
   (try simp (maxSteps:=2000000) (disch:=omega) only [go_sem,simprocAttr,zD,zE,li'])
   (refine walk_trim [0,1,2,3,10] trivial zL ?_;(refine zW ?_;try with_reducible exact True.intro);refine irun_walk (id:=3) (n:=200) [none,none,none,none,none,none,none,none,none,none,none,none,none,none,none,none,none,none,none,none,none,some [4,5,6,7],none,some []] mixed (by kernel_rfl) ?_)
   (try simp (maxSteps:=2000000) (disch:=omega) only [go_sem,simprocAttr,zD,zE,ga,gb,gb2,ta,tb,ePc])
   refine⟨i+1,by omega,by omega,?_⟩
   constructor<;>(try simp (maxSteps:=2000000) (disch:=omega) only [go_sem,simprocAttr,zD,zE,es])
  ·obtain rfl:i=k:=by omega
   ((try refine zO ?_);(try with_reducible exact True.intro))
theorem rotate_spec (g:Nat) (L A B R:List Pc) (hA:1≤A.length) (hB:1≤B.length) (hn:(L++A++B++R).length < 1000):
  PG Tryz.prog 139 [.ref 0 g 0 (L++A++B++R).length,sci .i64 (L.length:Int),sci .i64 ((L.length+A.length:Nat):Int),sci .i64 ((L.length+A.length+B.length:Nat):Int),cmpF]
   [pB g (L++A++B++R)] 0 (.tup []) [(0,pB g (L++B++A++R))]:=by
 generalize hl:L++A++B++R=l at *
 generalize hm:L.length+A.length=m at *
 generalize hb:m+B.length=b at *
 generalize hres:L++B++A++R=res
 have hlen:b≤l.length:=by rw [←hl];simp;omega
 refine pg_of 200 (fn:=Tryz.f139) Tryz.func139 rfl (by simp [Tryz.ntmps139]) 1 rfl zC zC zC zC zC fun hs=>?_
 ((try refine zW ?_);(try with_reducible exact True.intro))
 have s1:(m:Int) - (L.length:Int)=(A.length:Int):=by omega
 have s2:(b:Int) - (m:Int)=(B.length:Int):=by omega
 (try simp (maxSteps:=2000000) (disch:=omega) only [go_sem,simprocAttr,zD,zE,s1,s2])
 refine walk_loop 200 200 (fun p:(Nat × Nat) × List Pc=>(1≤p.1.1∧1≤p.1.2∧p.1.1≤m∧m+p.1.2≤b∧p.2.length=l.length)∧ ∃P X Y S,p.2=P++X++Y++S∧P.length+p.1.1=m∧X.length=p.1.1∧Y.length=p.1.2∧P++Y++X++S=res)
  (fun p=>⟨58, [(0, .ref 0 g 0 l.length),(2,sci .i64 (m:Int)),(4,cmpF),(10,sci .i64 (p.1.1:Int)),(11,sci .i64 (p.1.2:Int))], [],1, [(0,pB g p.2)]⟩) (fun p=>p.1.1+p.1.2) ((A.length,B.length),l) ?_ ?_ ?_
 ·exact⟨⟨hA,hB,by simp only;omega,by simp only;omega,rfl⟩,L,A,B,R,hl.symm,hm,rfl,rfl,hres⟩
 ·constructor<;>((try refine zO ?_);(try with_reducible exact True.intro))
 ·rintro⟨⟨i,j⟩,M⟩ ⟨⟨i1,i2,i3,i4,i5⟩,P,X,Y,S,e1,e2,e3,e4,e5⟩
  simp only at i1 i2 i3 i4 i5 e1 e2 e3 e4 e5
  ((try refine zW ?_);(try with_reducible exact True.intro))
  rcases Nat.lt_trichotomy i j with hij | hij | hij
  ·have c1:((i:Int)==(j:Int))=false:=by rw [beq_eq_false_iff_ne];omega
   have c2: ¬((j:Int) < (i:Int)):=by omega
   have s3:(m:Int) - (i:Int)=((m - i:Nat):Int):=by omega
   have s4:(m:Int)+(j:Int) - (i:Int)=((m+j - i:Nat):Int):=by omega
   have s5:(j:Int) - (i:Int)=((j - i:Nat):Int):=by omega
   obtain⟨Y1,Y2,rfl,hY2⟩: ∃Y1 Y2,Y=Y1++Y2∧Y2.length=i:=⟨Y.take (j - i),Y.drop (j - i),(List.take_append_drop ..).symm,by rw [List.length_drop];omega⟩
   rw [List.length_append] at e4
   have sp:=swap_spec g (m - i) (m+j - i) i M (by omega) (by omega) (by omega)
   have sw:swR (m - i) (m+j - i) i M=P++Y2++Y1++X++S:=by
    have:=swR_all P X Y1 Y2 S (by omega)
    rw [e3,show P.length+i+Y1.length=m+j - i by omega,show P.length=m - i by omega] at this
    rw [e1,←this];congr 1;simp
   rw [sw,i5] at sp
   (try simp (maxSteps:=2000000) (disch:=omega) only [go_sem,simprocAttr,zD,zE,c1,c2,s3,s4,s5])
   (refine at_g 200 ?_;(refine zW ?_;try with_reducible exact True.intro);refine callG_of [0] (sp) (by simp (maxSteps:=2000000) (disch:=omega) only [go_sem,simprocAttr,zD,zE,cmpF]) ?_;((try refine zW ?_);(try with_reducible exact True.intro)))
   (try simp (maxSteps:=2000000) (disch:=omega) only [go_sem,simprocAttr,zD,zE,s5])
   refine⟨((i,j - i),P++Y2++Y1++X++S),⟨⟨i1,by simp only;omega,i3,by simp only;omega,?_⟩,P,Y2,Y1,X++S,?_,e2,hY2,by simp only;omega,?_⟩,by simp only;omega,?_⟩
   ·simp only
    rw [←i5,e1];simp;omega
   ·simp
   ·rw [←e5];simp
   ·constructor<;>((try refine zO ?_);(try with_reducible exact True.intro))
  ·subst hij
   have c1:((i:Int)==(i:Int))=true:=beq_self_eq_true _
   have s3:(m:Int) - (i:Int)=((m - i:Nat):Int):=by omega
   have sp:=swap_spec g (m - i) m i M (by omega) (by omega) (by omega)
   have sw:swR (m - i) m i M=res:=by
    have:=swR_all P X [] Y S (by omega)
    simp only [List.append_nil,List.length_nil,Nat.add_zero] at this
    rw [e3,e2,show P.length=m - i by omega,←e1,e5] at this
    exact this
   rw [sw,i5] at sp
   (try simp (maxSteps:=2000000) (disch:=omega) only [go_sem,simprocAttr,zD,zE,s3])
   (refine at_g 200 ?_;(refine zW ?_;try with_reducible exact True.intro);refine callG_of [0] (sp) (by simp (maxSteps:=2000000) (disch:=omega) only [go_sem,simprocAttr,zD,zE,cmpF]) ?_;((try refine zW ?_);(try with_reducible exact True.intro)))
   try((try refine zO ?_);(try with_reducible exact True.intro))
  ·have c1:((i:Int)==(j:Int))=false:=by rw [beq_eq_false_iff_ne];omega
   have c2:((j:Int) < (i:Int)):=by omega
   have s3:(m:Int) - (i:Int)=((m - i:Nat):Int):=by omega
   have s5:(i:Int) - (j:Int)=((i - j:Nat):Int):=by omega
   obtain⟨X1,X2,rfl,hX1⟩: ∃X1 X2,X=X1++X2∧X1.length=j:=⟨X.take j,X.drop j,(List.take_append_drop ..).symm,by rw [List.length_take];omega⟩
   rw [List.length_append] at e3
   have sp:=swap_spec g (m - i) m j M (by omega) (by omega) (by omega)
   have sw:swR (m - i) m j M=P++Y++X2++X1++S:=by
    have:=swR_all P X1 X2 Y S (by omega)
    rw [hX1,show P.length+j+X2.length=m by omega,show P.length=m - i by omega] at this
    rw [e1,←this];congr 1;simp
   rw [sw,i5] at sp
   (try simp (maxSteps:=2000000) (disch:=omega) only [go_sem,simprocAttr,zD,zE,c1,c2,s3,s5])
   (refine at_g 200 ?_;(refine zW ?_;try with_reducible exact True.intro);refine callG_of [0] (sp) (by simp (maxSteps:=2000000) (disch:=omega) only [go_sem,simprocAttr,zD,zE,cmpF]) ?_;((try refine zW ?_);(try with_reducible exact True.intro)))
   (try simp (maxSteps:=2000000) (disch:=omega) only [go_sem,simprocAttr,zD,zE,s5])
   refine⟨((i - j,j),P++Y++X2++X1++S),⟨⟨by simp only;omega,i2,by simp only;omega,i4,?_⟩,P++Y,X2,X1,S,?_,?_,by simp only;omega,hX1,?_⟩,by simp only;omega,?_⟩
   ·simp only
    rw [←i5,e1];simp;omega
   ·simp
   ·simp only [List.length_append];omega
   ·rw [←e5];simp
   ·constructor<;>((try refine zO ?_);(try with_reducible exact True.intro))
end Go.Proofs.GY
