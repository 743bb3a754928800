/- Facts leant on. -/
import Derived.Test.YtfhhdgkhajkapaaGreatIdZo
import Derived.Test.YtfhhdgkhajkapaaGreatNQB
import Derived.Test.YtfhhdgkhajkapaaGreatNPC
import Derived.Test.YtfhhdgkhajkapaaGreatNMd
import Derived.Test.YtfhhdgkhajkapaaGreatNTypes
set_option linter.all false
open List renaming take_succ_eq_append_getElem->Ka,take_length->Kb,take_of_length_le->Kc,append_assoc->Kd
open True renaming intro->Ke
open Int renaming natCast_zero->Kf
open Bool renaming false_and->Kg,true_and->Kh,not_eq_true->Ki,and_false->Kj
open Option renaming none->U
open Bool renaming true->V,false->Y
/- Frames that may be: the program's functions. -/
namespace Go.Proofs.NO
open Go Go.Idl Go.Proofs Go.GP Go.Proofs.Tryz
set_option maxHeartbeats 0
set_option maxRecDepth 100000
def qaI(n a b:Int):Pure prog 231 [sci .i64 n,sci .i64 a,sci .i64 b] (scb (decide (a<=n) && decide (n<=b))):=by
 refine zAb func231 λhs=>?_;by_cases h:a<=n
 .exact zy h
 .exact zy h
def qhw(a b:List Int):Pure prog 290 [lI a,lI b] (scb (a==b)):=by
 refine zAa func290 λhs=>?_;simp only[go_sem,simprocAttr,maxLen] at hs;obtain⟨⟨ha, -⟩,hb, -⟩:=hs;refine zV ?_;by_cases hn:a.length=b.length
 rotate_left
 .have e:(a==b)=Y:=beq_eq_false_iff_ne.2 λq=>hn (by rw[q])
  exact zy e
 refine zP ?_;refine qac 200 200 (λi:Nat=>i<=a.length/\a.take i=b.take i)
  (λi=>⟨26, [(0,lI a),(1,lI b),(12,sci .i64 a.length),(13,sci .i64 i)], [],0, []⟩) (λi=>a.length - i) (0) [] ?_ ?_ ?_
 .simp
 .exact zc (zQ @Kf (zQ @Kc.{0} @Kd.{0}))
 .rintro i hi;obtain⟨hi,hinvi⟩:=hi;refine zV ?_;by_cases li:i < a.length
  .refine zP ?_;(refine zM [0,1,5,12,13] ?_;refine zI [U,U,U,U,U,U,U,U,U] ?_);(try simp(disch:=omega) only[go_sem,simprocAttr,zD,zE,eI]);by_cases hc:a[i]=b[i]
   .refine zS hc ?_;refine⟨i+1, [],⟨li,?_⟩,wa,?_⟩
    .rw[Ka li,Ka wa,hinvi,hc]
    .constructor<;>exact zU
   .have e:(a==b)=Y:=beq_eq_false_iff_ne.2 λq=>hc vq
    exact zy (zQ hc e)
  .obtain rfl:i=a.length:=wa
   rw[Kb,hn,Kb] at hinvi;have e:(a==b)=V:=beq_iff_eq.2 hinvi;exact zy e
def qqp(a b:List (Int × Int)):Pure prog 330 [lII a,lII b] (scb (a==b)):=by
 refine zAa func330 λhs=>?_;simp only[go_sem,simprocAttr,maxLen] at hs;obtain⟨⟨ha, -⟩,hb, -⟩:=hs;refine zV ?_;by_cases hn:a.length=b.length
 rotate_left
 .have e:(a==b)=Y:=beq_eq_false_iff_ne.2 λq=>hn (by rw[q])
  exact zy e
 refine zP ?_;refine qac 200 200 (λi:Nat=>i<=a.length/\a.take i=b.take i)
  (λi=>⟨26, [(0,lII a),(1,lII b),(12,sci .i64 a.length),(13,sci .i64 i)], [],0, []⟩) (λi=>a.length - i) (0) [] ?_ ?_ ?_
 .simp
 .exact zc (zQ @Kf (zQ @Kc.{0} @Kd.{0}))
 .rintro i hi;obtain⟨hi,hinvi⟩:=hi;refine zV ?_;by_cases li:i < a.length
  .refine zP ?_;(refine zM [0,1,5,12,13] ?_;refine zI [U,U,U,U,U,U,U,U,U] ?_);(try simp(disch:=omega) only[go_sem,simprocAttr,zD,zE,eII]);by_cases hc:a[i]=b[i]
   .have h1:(a[i].1==b[i].1)=V:=wF
    have h2:(a[i].2==b[i].2)=V:=wF
    refine zS (zQ h1 h2) ?_;refine⟨i+1, [],⟨li,?_⟩,wa,?_⟩
    .rw[Ka li,Ka wa,hinvi,hc]
    .constructor<;>exact zU
   .have e:(a==b)=Y:=beq_eq_false_iff_ne.2 λq=>hc vq
    have h1:(a[i].1==b[i].1 && a[i].2==b[i].2)=Y:=by
     rw[Bool.and_eq_false_iff,beq_eq_false_iff_ne,beq_eq_false_iff_ne];by_cases e:a[i].1=b[i].1
     .exact .inr λe2=>hc (Prod.ext e e2)
     .exact .inl e
    exact zy (zQ h1 e)
  .obtain rfl:i=a.length:=wa
   rw[Kb,hn,Kb] at hinvi;have e:(a==b)=V:=beq_iff_eq.2 hinvi;exact zy e
def qo1(a b:List (List (Int × Int))):Pure prog 329 [lMs a,lMs b, .p (.sc (.func (.func 330) #[] #[]))] (scb (a==b)):=by
 refine zAa func329 λhs=>?_;simp only[go_sem,simprocAttr,maxLen] at hs;obtain⟨⟨ha, -⟩,hb, -⟩:=hs;refine zV ?_;by_cases hn:a.length=b.length
 rotate_left
 .have e:(a==b)=Y:=beq_eq_false_iff_ne.2 λq=>hn (by rw[q])
  exact zy e
 refine zP ?_;refine qac 200 200 (λi:Nat=>i<=a.length/\a.take i=b.take i)
  (λi=>⟨32, [(1,lMs b),(2, .p (.sc (.func (.func 330) #[] #[]))),(15,lMs a),(16,sci .i64 a.length),(17,sci .i64 i)], [],0, []⟩) (λi=>a.length - i) (0) [] ?_ ?_ ?_
 .simp
 .exact zc (zQ @Kf (zQ @Kc.{0} @Kd.{0}))
 .rintro i hi;obtain⟨hi,hinvi⟩:=hi;refine zV ?_;by_cases li:i < a.length
  ·(try simp(disch:=omega) only[go_sem,simprocAttr,zD,zE,eMs]);(refine zG ?_;refine qaa (qqp a[i] b[i]) zB ?_;refine zV ?_);by_cases hc:a[i]=b[i]
   .have h1:(a[i]==b[i])=V:=beq_iff_eq.2 hc;refine zS h1 ?_;refine⟨i+1, [],⟨li,?_⟩,wa,?_⟩
    .rw[Ka li,Ka wa,hinvi,hc]
    .constructor<;>exact zU
   .have e:(a==b)=Y:=beq_eq_false_iff_ne.2 λq=>hc vq
    have h1:(a[i]==b[i])=Y:=beq_eq_false_iff_ne.2 hc;exact zy (zQ h1 e)
  .obtain rfl:i=a.length:=wa
   rw[Kb,hn,Kb] at hinvi;have e:(a==b)=V:=beq_iff_eq.2 hinvi;exact zy e
def qo0(a b:List (List Int)):Pure prog 331 [lLs a,lLs b, .p (.sc (.func (.func 290) #[] #[]))] (scb (a==b)):=by
 refine zAa func331 λhs=>?_;simp only[go_sem,simprocAttr,maxLen] at hs;obtain⟨⟨ha, -⟩,hb, -⟩:=hs;refine zV ?_;by_cases hn:a.length=b.length
 rotate_left
 .have e:(a==b)=Y:=beq_eq_false_iff_ne.2 λq=>hn (by rw[q])
  exact zy e
 refine zP ?_;refine qac 200 200 (λi:Nat=>i<=a.length/\a.take i=b.take i)
  (λi=>⟨32, [(1,lLs b),(2, .p (.sc (.func (.func 290) #[] #[]))),(15,lLs a),(16,sci .i64 a.length),(17,sci .i64 i)], [],0, []⟩) (λi=>a.length - i) (0) [] ?_ ?_ ?_
 .simp
 .exact zc (zQ @Kf (zQ @Kc.{0} @Kd.{0}))
 .rintro i hi;obtain⟨hi,hinvi⟩:=hi;refine zV ?_;by_cases li:i < a.length
  ·(try simp(disch:=omega) only[go_sem,simprocAttr,zD,zE,eLs]);(refine zG ?_;refine qaa (qhw a[i] b[i]) zB ?_;refine zV ?_);by_cases hc:a[i]=b[i]
   .have h1:(a[i]==b[i])=V:=beq_iff_eq.2 hc;refine zS h1 ?_;refine⟨i+1, [],⟨li,?_⟩,wa,?_⟩
    .rw[Ka li,Ka wa,hinvi,hc]
    .constructor<;>exact zU
   .have e:(a==b)=Y:=beq_eq_false_iff_ne.2 λq=>hc vq
    have h1:(a[i]==b[i])=Y:=beq_eq_false_iff_ne.2 hc;exact zy (zQ h1 e)
  .obtain rfl:i=a.length:=wa
   rw[Kb,hn,Kb] at hinvi;have e:(a==b)=V:=beq_iff_eq.2 hinvi;exact zy e
def qoN(p q:Pc):Pure prog 289 [lPc p,lPc q] (scb (samePc p q)):=by
 generalize hres:samePc p q=res;unfold samePc at hres;obtain⟨p1,p2,p3,p4,p5,p6⟩:=p;obtain⟨q1,q2,q3,q4,q5,q6⟩:=q;simp only at hres;refine zAb func289 λhs=>?_;by_cases c1:p1=q1
 rotate_left
 .have e:(p1==q1)=Y:=beq_eq_false_iff_ne.2 c1;simp only[e,Kg] at hres;subst hres;exact zy e
 by_cases c2:p2=q2
 rotate_left
 .have e:(p2==q2)=Y:=beq_eq_false_iff_ne.2 c2;simp only[e,Kj,Kg] at hres;subst hres;exact zy (zQ c1 e)
 by_cases c3:p3=q3
 rotate_left
 .have e:(p3==q3)=Y:=beq_eq_false_iff_ne.2 c3;simp only[e,Kj,Kg] at hres;subst hres;exact zy (zQ c1 (zQ c2 e))
 have d1:(p1==q1)=V:=beq_iff_eq.2 c1;have d2:(p2==q2)=V:=beq_iff_eq.2 c2;have d3:(p3==q3)=V:=beq_iff_eq.2 c3;simp only[d1,d2,d3,Kh] at hres;refine zS (zQ d1 (zQ d2 d3)) ?_;(refine zG ?_;refine qaa (qhw p4 q4) zB ?_;refine zV ?_);cases c4:p4==q4
 .simp only[c4,Kg] at hres;subst hres;exact zU
 simp only[c4,Kh] at hres;refine zP ?_;(refine zG ?_;refine qaa (qo1 p5 q5) zB ?_;refine zV ?_);cases c5:p5==q5
 .simp only[c5,Kg] at hres;subst hres;exact zU
 simp only[c5,Kh] at hres;refine zP ?_;(refine zG ?_;refine qaa (qo0 p6 q6) zB ?_;refine zV ?_);subst hres;exact zU
def qo2(a b:List Pc):Pure prog 288 [lPs a,lPs b, .p (.sc (.func (.func 289) #[] #[]))] (scb (sameAll a b)):=by
 generalize hres:sameAll a b=res;refine zAa func288 λhs=>?_;simp only[go_sem,simprocAttr,maxLen] at hs;obtain⟨⟨ha, -⟩,hb, -⟩:=hs;refine zV ?_;by_cases hn:a.length=b.length
 rotate_left
 .have e:res=Y:=by rw[<-hres,<-Ki,qcQ];exact λq=>hn (by rw[q])
  exact zy (zQ hn e)
 refine zP ?_;refine qac 200 200 (λi:Nat=>i<=a.length/\a.take i=b.take i)
  (λi=>⟨32, [(1,lPs b),(2, .p (.sc (.func (.func 289) #[] #[]))),(15,lPs a),(16,sci .i64 a.length),(17,sci .i64 i)], [],0, []⟩) (λi=>a.length - i) (0) [] ?_ ?_ ?_
 .simp
 .exact zc (zQ @Kf (zQ @Kc.{0} @Kd.{0}))
 .rintro i hi;obtain⟨hi,hinvi⟩:=hi;refine zV ?_;by_cases li:i < a.length
  ·(try simp(disch:=omega) only[go_sem,simprocAttr,zD,zE,ePc]);(refine zG ?_;refine qaa (qoN a[i] b[i]) zB ?_;refine zV ?_);by_cases hc:a[i]=b[i]
   .have h1:samePc a[i] b[i]=V:=qfM.2 hc;refine zS h1 ?_;refine⟨i+1, [],⟨li,?_⟩,wa,?_⟩
    .rw[Ka li,Ka wa,hinvi,hc]
    .constructor<;>exact zU
   .have e:res=Y:=by rw[<-hres,<-Ki,qcQ];exact λq=>hc vq
    have h1:samePc a[i] b[i]=Y:=by rw[<-Ki];exact λh=>hc (qfM.1 h)
    exact zy (zQ h1 e)
  .obtain rfl:i=a.length:=wa
   rw[Kb,hn,Kb] at hinvi;have e:res=V:=by rw[<-hres];exact qcQ.2 hinvi
   exact zy e
end Go.Proofs.NO
/- Facts of types that are functions, and of a call under way. -/
namespace Go.Proofs.NO
open Go Go.Idl Go.Proofs Go.Proofs.Tryz
@[go_sem] def tszF_232:tsz prog 232=some 1:=we
@[go_sem] def tagF_232:tag prog 232=some Y:=we
@[go_sem] def tszF_324:tsz prog 324=some 1:=we
@[go_sem] def tzeF_324:tze prog 324=some [.nilFunc]:=we
@[go_sem] def tagF_324:tag prog 324=some Y:=we
@[go_sem] def tzeF_230:tze prog 230=some [.int .i64 0, .slice U 0 0, .slice U 0 0, .bool Y, .int .i64 0, .int .i64 0, .int .i64 0, .slice U 0 0, .slice U 0 0, .int .i64 0, .slice U 0 0, .int .i64 0, .int .i64 0, .int .i64 0, .slice U 0 0, .slice U 0 0, .slice U 0 0, .int .i64 0, .int .i64 0, .int .i64 0, .int .i64 0, .slice U 0 0, .slice U 0 0, .slice U 0 0, .int .i64 0, .int .i64 0, .int .i64 0, .slice U 0 0, .slice U 0 0, .int .i64 0, .int .i64 0, .slice U 0 0, .slice U 0 0, .slice U 0 0, .slice U 0 0, .int .i64 0, .int .i64 0, .int .i64 0, .int .i64 0, .int .i64 0, .slice U 0 0, .int .i64 0, .int .i64 0, .int .i64 0, .slice U 0 0]:=we
end Go.Proofs.NO
