/- Facts leant on. -/
import Derived.Test.YtfhhdgkhajkapaaGreatIdZo
import Derived.Test.YtfhhdgkhajkapaaGreatNQB
import Derived.Test.YtfhhdgkhajkapaaGreatIdRc
import Derived.Test.YtfhhdgkhajkapaaGreatNMd
import Derived.Test.YtfhhdgkhajkapaaGreatNTypes
set_option linter.all false
open List renaming take_succ_eq_append_getElem->Ka,take_length->Kb,take_of_length_le->Kc,append_assoc->Kd
open True renaming intro->Ke
open Int renaming natCast_zero->Kf
open Bool renaming false_and->Kg,true_and->Kh,not_eq_true->Ki,and_false->Kj
open Option renaming none->U
open Bool renaming true->V,false->Y
/- Frames that may be: the program's functions. -/
namespace Go.Proofs.NO
open Go Go.Idl Go.Proofs Go.GP Go.Proofs.Tryz
set_option maxHeartbeats 0
set_option maxRecDepth 100000
def qaL(n a b:Int):Pure prog 231 [sci .i64 n,sci .i64 a,sci .i64 b] (scb (decide (a<=n) && decide (n<=b))):=by
 refine pcall0 200 (fn:=f231) func231 rfl (by simp[ntmps231]) zB zB λhs=>?_;refine zV ?_;by_cases h:a<=n
 ·(try simp(disch:=omega) only[go_sem,simprocAttr,zD,zE,h])
 ·(try simp(disch:=omega) only[go_sem,simprocAttr,zD,zE,h])
def qic(a b:List Int):Pure prog 290 [lI a,lI b] (scb (a==b)):=by
 refine pcall0 200 (fn:=f290) func290 rfl (by simp[ntmps290]) zB zB λhs=>?_;simp only[go_sem,simprocAttr,maxLen] at hs;obtain⟨⟨ha, -⟩,hb, -⟩:=hs;refine zV ?_;by_cases hn:a.length=b.length
 rotate_left
 .have e:(a==b)=Y:=beq_eq_false_iff_ne.2 λq=>hn (by rw[q])
  (try simp(disch:=omega) only[go_sem,simprocAttr,zD,zE,e])
 refine zP ?_;refine qac 200 200 (λi:Nat=>i<=a.length/\a.take i=b.take i)
  (λi=>⟨26, [(0,lI a),(1,lI b),(12,sci .i64 a.length),(13,sci .i64 i)], [],0, []⟩) (λi=>a.length - i) (0) [] ?_ ?_ ?_
 .simp
 .constructor<;>(try simp(disch:=omega) only[go_sem,simprocAttr,zD,zE,Kf,Kc,Kd])
 .rintro i hi;obtain⟨hi,hinvi⟩:=hi;refine zV ?_;by_cases li:i < a.length
  .refine zP ?_;(refine zM [0,1,5,12,13] ?_;refine zI [U,U,U,U,U,U,U,U,U] ?_);(try simp(disch:=omega) only[go_sem,simprocAttr,zD,zE,eI]);by_cases hc:a[i]=b[i]
   .refine zS hc ?_;refine⟨i+1, [],⟨li,?_⟩,wa,?_⟩
    .rw[Ka li,Ka wa,hinvi,hc]
    .constructor<;>((try refine zO ?_);(try with_reducible exact Ke))
   .have e:(a==b)=Y:=beq_eq_false_iff_ne.2 λq=>hc vV
    (try simp(disch:=omega) only[go_sem,simprocAttr,zD,zE,hc,e])
  .obtain rfl:i=a.length:=wa
   rw[Kb,hn,Kb] at hinvi;have e:(a==b)=V:=beq_iff_eq.2 hinvi;(try simp(disch:=omega) only[go_sem,simprocAttr,zD,zE,e])
def qsw(a b:List (Int × Int)):Pure prog 330 [lII a,lII b] (scb (a==b)):=by
 refine pcall0 200 (fn:=f330) func330 rfl (by simp[ntmps330]) zB zB λhs=>?_;simp only[go_sem,simprocAttr,maxLen] at hs;obtain⟨⟨ha, -⟩,hb, -⟩:=hs;refine zV ?_;by_cases hn:a.length=b.length
 rotate_left
 .have e:(a==b)=Y:=beq_eq_false_iff_ne.2 λq=>hn (by rw[q])
  (try simp(disch:=omega) only[go_sem,simprocAttr,zD,zE,e])
 refine zP ?_;refine qac 200 200 (λi:Nat=>i<=a.length/\a.take i=b.take i)
  (λi=>⟨26, [(0,lII a),(1,lII b),(12,sci .i64 a.length),(13,sci .i64 i)], [],0, []⟩) (λi=>a.length - i) (0) [] ?_ ?_ ?_
 .simp
 .constructor<;>(try simp(disch:=omega) only[go_sem,simprocAttr,zD,zE,Kf,Kc,Kd])
 .rintro i hi;obtain⟨hi,hinvi⟩:=hi;refine zV ?_;by_cases li:i < a.length
  .refine zP ?_;(refine zM [0,1,5,12,13] ?_;refine zI [U,U,U,U,U,U,U,U,U] ?_);(try simp(disch:=omega) only[go_sem,simprocAttr,zD,zE,eII]);by_cases hc:a[i]=b[i]
   .have h1:(a[i].1==b[i].1)=V:=wS
    have h2:(a[i].2==b[i].2)=V:=wS
    refine zS (zQ h1 h2) ?_;refine⟨i+1, [],⟨li,?_⟩,wa,?_⟩
    .rw[Ka li,Ka wa,hinvi,hc]
    .constructor<;>((try refine zO ?_);(try with_reducible exact Ke))
   .have e:(a==b)=Y:=beq_eq_false_iff_ne.2 λq=>hc vV
    have h1:(a[i].1==b[i].1 && a[i].2==b[i].2)=Y:=by
     rw[Bool.and_eq_false_iff,beq_eq_false_iff_ne,beq_eq_false_iff_ne];by_cases e:a[i].1=b[i].1
     .exact .inr λe2=>hc (Prod.ext e e2)
     .exact .inl e
    (try simp(disch:=omega) only[go_sem,simprocAttr,zD,zE,h1,e])
  .obtain rfl:i=a.length:=wa
   rw[Kb,hn,Kb] at hinvi;have e:(a==b)=V:=beq_iff_eq.2 hinvi;(try simp(disch:=omega) only[go_sem,simprocAttr,zD,zE,e])
def qrd(a b:List (List (Int × Int))):Pure prog 329 [lMs a,lMs b, .p (.sc (.func (.func 330) #[] #[]))] (scb (a==b)):=by
 refine pcall0 200 (fn:=f329) func329 rfl (by simp[ntmps329]) zB zB λhs=>?_;simp only[go_sem,simprocAttr,maxLen] at hs;obtain⟨⟨ha, -⟩,hb, -⟩:=hs;refine zV ?_;by_cases hn:a.length=b.length
 rotate_left
 .have e:(a==b)=Y:=beq_eq_false_iff_ne.2 λq=>hn (by rw[q])
  (try simp(disch:=omega) only[go_sem,simprocAttr,zD,zE,e])
 refine zP ?_;refine qac 200 200 (λi:Nat=>i<=a.length/\a.take i=b.take i)
  (λi=>⟨32, [(1,lMs b),(2, .p (.sc (.func (.func 330) #[] #[]))),(15,lMs a),(16,sci .i64 a.length),(17,sci .i64 i)], [],0, []⟩) (λi=>a.length - i) (0) [] ?_ ?_ ?_
 .simp
 .constructor<;>(try simp(disch:=omega) only[go_sem,simprocAttr,zD,zE,Kf,Kc,Kd])
 .rintro i hi;obtain⟨hi,hinvi⟩:=hi;refine zV ?_;by_cases li:i < a.length
  ·(try simp(disch:=omega) only[go_sem,simprocAttr,zD,zE,eMs]);(refine zG ?_;refine qaa (qsw a[i] b[i]) zB ?_;refine zV ?_);by_cases hc:a[i]=b[i]
   .have h1:(a[i]==b[i])=V:=beq_iff_eq.2 hc;refine zS h1 ?_;refine⟨i+1, [],⟨li,?_⟩,wa,?_⟩
    .rw[Ka li,Ka wa,hinvi,hc]
    .constructor<;>((try refine zO ?_);(try with_reducible exact Ke))
   .have e:(a==b)=Y:=beq_eq_false_iff_ne.2 λq=>hc vV
    have h1:(a[i]==b[i])=Y:=beq_eq_false_iff_ne.2 hc;(try simp(disch:=omega) only[go_sem,simprocAttr,zD,zE,h1,e])
  .obtain rfl:i=a.length:=wa
   rw[Kb,hn,Kb] at hinvi;have e:(a==b)=V:=beq_iff_eq.2 hinvi;(try simp(disch:=omega) only[go_sem,simprocAttr,zD,zE,e])
def qrc(a b:List (List Int)):Pure prog 331 [lLs a,lLs b, .p (.sc (.func (.func 290) #[] #[]))] (scb (a==b)):=by
 refine pcall0 200 (fn:=f331) func331 rfl (by simp[ntmps331]) zB zB λhs=>?_;simp only[go_sem,simprocAttr,maxLen] at hs;obtain⟨⟨ha, -⟩,hb, -⟩:=hs;refine zV ?_;by_cases hn:a.length=b.length
 rotate_left
 .have e:(a==b)=Y:=beq_eq_false_iff_ne.2 λq=>hn (by rw[q])
  (try simp(disch:=omega) only[go_sem,simprocAttr,zD,zE,e])
 refine zP ?_;refine qac 200 200 (λi:Nat=>i<=a.length/\a.take i=b.take i)
  (λi=>⟨32, [(1,lLs b),(2, .p (.sc (.func (.func 290) #[] #[]))),(15,lLs a),(16,sci .i64 a.length),(17,sci .i64 i)], [],0, []⟩) (λi=>a.length - i) (0) [] ?_ ?_ ?_
 .simp
 .constructor<;>(try simp(disch:=omega) only[go_sem,simprocAttr,zD,zE,Kf,Kc,Kd])
 .rintro i hi;obtain⟨hi,hinvi⟩:=hi;refine zV ?_;by_cases li:i < a.length
  ·(try simp(disch:=omega) only[go_sem,simprocAttr,zD,zE,eLs]);(refine zG ?_;refine qaa (qic a[i] b[i]) zB ?_;refine zV ?_);by_cases hc:a[i]=b[i]
   .have h1:(a[i]==b[i])=V:=beq_iff_eq.2 hc;refine zS h1 ?_;refine⟨i+1, [],⟨li,?_⟩,wa,?_⟩
    .rw[Ka li,Ka wa,hinvi,hc]
    .constructor<;>((try refine zO ?_);(try with_reducible exact Ke))
   .have e:(a==b)=Y:=beq_eq_false_iff_ne.2 λq=>hc vV
    have h1:(a[i]==b[i])=Y:=beq_eq_false_iff_ne.2 hc;(try simp(disch:=omega) only[go_sem,simprocAttr,zD,zE,h1,e])
  .obtain rfl:i=a.length:=wa
   rw[Kb,hn,Kb] at hinvi;have e:(a==b)=V:=beq_iff_eq.2 hinvi;(try simp(disch:=omega) only[go_sem,simprocAttr,zD,zE,e])
def qqZ(p q:Pc):Pure prog 289 [lPc p,lPc q] (scb (qcc p q)):=by
 generalize hres:qcc p q=res;unfold qcc at hres;obtain⟨p1,p2,p3,p4,p5,p6⟩:=p;obtain⟨q1,q2,q3,q4,q5,q6⟩:=q;simp only at hres;refine pcall0 200 (fn:=f289) func289 rfl (by simp[ntmps289]) zB zB λhs=>?_;refine zV ?_;by_cases c1:p1=q1
 rotate_left
 .have e:(p1==q1)=Y:=beq_eq_false_iff_ne.2 c1;simp only[e,Kg] at hres;subst hres;(try simp(maxSteps:=2000000) (disch:=omega) only[go_sem,simprocAttr,zD,zE,e])
 by_cases c2:p2=q2
 rotate_left
 .have e:(p2==q2)=Y:=beq_eq_false_iff_ne.2 c2;simp only[e,Kj,Kg] at hres;subst hres;(try simp(maxSteps:=2000000) (disch:=omega) only[go_sem,simprocAttr,zD,zE,c1,e])
 by_cases c3:p3=q3
 rotate_left
 .have e:(p3==q3)=Y:=beq_eq_false_iff_ne.2 c3;simp only[e,Kj,Kg] at hres;subst hres;(try simp(maxSteps:=2000000) (disch:=omega) only[go_sem,simprocAttr,zD,zE,c1,c2,e])
 have d1:(p1==q1)=V:=beq_iff_eq.2 c1;have d2:(p2==q2)=V:=beq_iff_eq.2 c2;have d3:(p3==q3)=V:=beq_iff_eq.2 c3;simp only[d1,d2,d3,Kh] at hres;refine zS (zQ d1 (zQ d2 d3)) ?_;(refine zG ?_;refine qaa (qic p4 q4) zB ?_;refine zV ?_);cases c4:p4==q4
 .simp only[c4,Kg] at hres;subst hres;((try refine zO ?_);(try with_reducible exact Ke))
 simp only[c4,Kh] at hres;refine zP ?_;(refine zG ?_;refine qaa (qrd p5 q5) zB ?_;refine zV ?_);cases c5:p5==q5
 .simp only[c5,Kg] at hres;subst hres;((try refine zO ?_);(try with_reducible exact Ke))
 simp only[c5,Kh] at hres;refine zP ?_;(refine zG ?_;refine qaa (qrc p6 q6) zB ?_;refine zV ?_);subst hres;((try refine zO ?_);(try with_reducible exact Ke))
def qre(a b:List Pc):Pure prog 288 [lPs a,lPs b, .p (.sc (.func (.func 289) #[] #[]))] (scb (qbU a b)):=by
 generalize hres:qbU a b=res;refine pcall0 200 (fn:=f288) func288 rfl (by simp[ntmps288]) zB zB λhs=>?_;simp only[go_sem,simprocAttr,maxLen] at hs;obtain⟨⟨ha, -⟩,hb, -⟩:=hs;refine zV ?_;by_cases hn:a.length=b.length
 rotate_left
 .have e:res=Y:=by rw[<-hres,<-Ki,qbg];exact λq=>hn (by rw[q])
  (try simp(disch:=omega) only[go_sem,simprocAttr,zD,zE,hn,e])
 refine zP ?_;refine qac 200 200 (λi:Nat=>i<=a.length/\a.take i=b.take i)
  (λi=>⟨32, [(1,lPs b),(2, .p (.sc (.func (.func 289) #[] #[]))),(15,lPs a),(16,sci .i64 a.length),(17,sci .i64 i)], [],0, []⟩) (λi=>a.length - i) (0) [] ?_ ?_ ?_
 .simp
 .constructor<;>(try simp(disch:=omega) only[go_sem,simprocAttr,zD,zE,Kf,Kc,Kd])
 .rintro i hi;obtain⟨hi,hinvi⟩:=hi;refine zV ?_;by_cases li:i < a.length
  ·(try simp(disch:=omega) only[go_sem,simprocAttr,zD,zE,ePc]);(refine zG ?_;refine qaa (qqZ a[i] b[i]) zB ?_;refine zV ?_);by_cases hc:a[i]=b[i]
   .have h1:qcc a[i] b[i]=V:=qdv.2 hc;refine zS h1 ?_;refine⟨i+1, [],⟨li,?_⟩,wa,?_⟩
    .rw[Ka li,Ka wa,hinvi,hc]
    .constructor<;>((try refine zO ?_);(try with_reducible exact Ke))
   .have e:res=Y:=by rw[<-hres,<-Ki,qbg];exact λq=>hc vV
    have h1:qcc a[i] b[i]=Y:=by rw[<-Ki];exact λh=>hc (qdv.1 h)
    (try simp(disch:=omega) only[go_sem,simprocAttr,zD,zE,h1,e])
  .obtain rfl:i=a.length:=wa
   rw[Kb,hn,Kb] at hinvi;have e:res=V:=by rw[<-hres];exact qbg.2 hinvi
   (try simp(disch:=omega) only[go_sem,simprocAttr,zD,zE,e])
end Go.Proofs.NO
/- Facts of types that are functions, and of a call under way. -/
namespace Go.Proofs.NO
open Go Go.Idl Go.Proofs Go.Proofs.Tryz
@[go_sem] def tszF_232:tsz prog 232=some 1:=wb
@[go_sem] def tagF_232:tag prog 232=some Y:=wb
@[go_sem] def tszF_324:tsz prog 324=some 1:=wb
@[go_sem] def tzeF_324:tze prog 324=some [.nilFunc]:=wb
@[go_sem] def tagF_324:tag prog 324=some Y:=wb
@[go_sem] def tzeF_230:tze prog 230=some [.int .i64 0, .slice U 0 0, .slice U 0 0, .bool Y, .int .i64 0, .int .i64 0, .int .i64 0, .slice U 0 0, .slice U 0 0, .int .i64 0, .slice U 0 0, .int .i64 0, .int .i64 0, .int .i64 0, .slice U 0 0, .slice U 0 0, .slice U 0 0, .int .i64 0, .int .i64 0, .int .i64 0, .int .i64 0, .slice U 0 0, .slice U 0 0, .slice U 0 0, .int .i64 0, .int .i64 0, .int .i64 0, .slice U 0 0, .slice U 0 0, .int .i64 0, .int .i64 0, .slice U 0 0, .slice U 0 0, .slice U 0 0, .slice U 0 0, .int .i64 0, .int .i64 0, .int .i64 0, .int .i64 0, .int .i64 0, .slice U 0 0, .int .i64 0, .int .i64 0, .int .i64 0, .slice U 0 0]:=wb
end Go.Proofs.NO
