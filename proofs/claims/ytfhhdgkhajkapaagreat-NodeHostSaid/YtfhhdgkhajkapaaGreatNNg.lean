/- Which frames may be: the program's answer. -/
import Derived.Test.YtfhhdgkhajkapaaGreatNTy2
set_option linter.all false
open Bool renaming false_and->Ka,and_false->Kb,true_and->Kc,not_false->Kd,not_true->Ke,false_eq_true->Kf,not_not->Kg
open True renaming intro->Kh
open List renaming append_assoc->Ki,take_of_length_le->Kj,drop_length->Kk
open Classical renaming byContradiction->Kl
open Option renaming none->U,some->V
namespace Go.Proofs.NO
open Go Go.Idl Go.Proofs Go.GP Go.Proofs.Tryz
set_option maxHeartbeats 0
set_option maxRecDepth 100000
def qfL(f g:Fm):Bool:=f.kind==g.kind && f.epoch==g.epoch && (f.m.1==g.m.1 && f.m.2==g.m.2) && sameAll f.ps g.ps && f.init==g.init && f.num==g.num && f.count==g.count && f.path==g.path
def qjL{f g:Fm}:qfL f g=true↔f=g:=by
 obtain⟨f1,f2,⟨f3,f4⟩,f5,f6,f7,f8,f9⟩:=f;obtain⟨g1,g2,⟨g3,g4⟩,g5,g6,g7,g8,g9⟩:=g;simp only[qfL,Bool.and_eq_true,beq_iff_eq,qcQ,Fm.mk.injEq,Prod.mk.injEq];constructor
 .rintro⟨⟨⟨⟨⟨⟨⟨a,b⟩,c⟩,d⟩,e⟩,f⟩,g⟩,h⟩;exact⟨a,b,c,d,e,f,g,h⟩
 .rintro⟨a,b,c,d,e,f,g,h⟩;exact⟨⟨⟨⟨⟨⟨⟨a,b⟩,c⟩,d⟩,e⟩,f⟩,g⟩,h⟩
def qh3(f g:Fm):Pure prog 232 [lFm f,lFm g] (scb (qfL f g)):=by
 generalize hres:qfL f g=res;unfold qfL at hres;obtain⟨f1,f2,⟨f3,f4⟩,f5,f6,f7,f8,f9⟩:=f;obtain⟨g1,g2,⟨g3,g4⟩,g5,g6,g7,g8,g9⟩:=g;simp only at hres;refine zAb func232 λhs=>?_;by_cases c1:f1=g1
 rotate_left
 .have e:(f1==g1)=false:=beq_eq_false_iff_ne.2 c1;simp only[e,Ka] at hres;subst hres;exact zy e
 by_cases c2:f2=g2
 rotate_left
 .have e:(f2==g2)=false:=beq_eq_false_iff_ne.2 c2;simp only[e,Kb,Ka] at hres;subst hres;exact zy (zQ c1 e)
 have d1:(f1==g1)=true:=beq_iff_eq.2 c1;have d2:(f2==g2)=true:=beq_iff_eq.2 c2;simp only[d1,d2,Kc] at hres;refine zS (zQ d1 d2) ?_;cases c3:(f3==g3 && f4==g4)
 .simp only[c3,Ka] at hres;subst hres;exact zy c3
 simp only[c3,Kc] at hres;refine zS c3 ?_;(refine zG ?_;refine qaa (qo2 f5 g5) zB ?_;refine zV ?_);cases c5:sameAll f5 g5
 .simp only[c5,Ka] at hres;subst hres;exact zU
 simp only[c5,Kc] at hres;refine zP ?_;by_cases c6:f6=g6
 rotate_left
 .have e:(f6==g6)=false:=beq_eq_false_iff_ne.2 c6;simp only[e,Ka] at hres;subst hres;exact zy e
 by_cases c7:f7=g7
 rotate_left
 .have e:(f7==g7)=false:=beq_eq_false_iff_ne.2 c7;simp only[e,Kb,Ka] at hres;subst hres;exact zy (zQ c6 e)
 by_cases c8:f8=g8
 rotate_left
 .have e:(f8==g8)=false:=beq_eq_false_iff_ne.2 c8;simp only[e,Kb,Ka] at hres;subst hres;exact zy (zQ c6 (zQ c7 e))
 have d6:(f6==g6)=true:=beq_iff_eq.2 c6;have d7:(f7==g7)=true:=beq_iff_eq.2 c7;have d8:(f8==g8)=true:=beq_iff_eq.2 c8;simp only[d6,d7,d8,Kc] at hres;refine zS (zQ d6 (zQ d7 d8)) ?_;(refine zG ?_;refine qaa (qhw f9 g9) zB ?_;refine zV ?_);subst hres;exact zU
def onlyF(f:Fm):Fm:=
 if f.kind=0 then⟨0,f.epoch,f.m, [],0,0,0, []⟩ else if f.kind=5 then⟨5,f.epoch,(0,0),f.ps,0,0,0, []⟩ else if f.kind=6 then⟨6,0,(0,0), [],f.init,f.num,f.count,f.path⟩
 else⟨f.kind,f.epoch,(0,0), [],0,0,0, []⟩
def qjC(f:Fm):Pure prog 233 [lFm f] (lFm (onlyF f)):=by
 unfold onlyF;obtain⟨f1,f2,⟨f3,f4⟩,f5,f6,f7,f8,f9⟩:=f;by_cases c0:f1=0
 .subst c0;refine zAa func233 λhs=>?_;exact zU
 by_cases c5:f1=5
 .subst c5;refine zAa func233 λhs=>?_;exact zU
 by_cases c6:f1=6
 .subst c6;refine zAa func233 λhs=>?_;exact zU
 simp only[if_neg c0,if_neg c5,if_neg c6];refine zAa func233 λhs=>?_;exact zy (zQ c0 (zQ c5 c6))
def qqG{f:Fm}(h:FrP f):f=onlyF f:=by
 obtain⟨f1,f2,⟨f3,f4⟩,f5,f6,f7,f8,f9⟩:=f;unfold FrP at h;rcases h with ⟨k,h⟩ | ⟨k,⟨b1,b2,b3,b4⟩, -,h1, -⟩ | ⟨k,⟨⟨b1,b2,b3,b4⟩, -,h0⟩,h1⟩ | ⟨k,⟨⟨b1,b2,b3,b4⟩, -,h0⟩, -⟩
 .obtain⟨h1,h2,h3, -⟩:=h;simp only at k h1 h2 h3;subst k h1 h3;rw[h2];rfl
 .simp only at k b1 b2 b3 b4 h1;subst k b1 b2 b3 b4 h1;rfl
 .simp only at k b1 b2 b3 b4 h0 h1;subst b1 b2 b3 b4 h1;rw[h0];unfold onlyF;simp only;rw[if_neg wa,if_neg wa,if_neg wa]
 .simp only at k b1 b2 b3 b4 h0;subst k b1 b2 b3 b4;rw[h0];rfl
abbrev fCtl:IV:= .p (.sc (.func (.func 234) #[] #[]))
def qlh(f:Fm):Pure prog 234 [lFm f] (scb (decide (1<=f.epoch) && decide (f.epoch<=200))):=by
 refine zAb func234 λhs=>?_;(refine zG ?_;refine qaa (qaI f.epoch 1 200) zB ?_;exact zT)
def qqA(f:Fm):Pure prog 235 [lFm f] (scb ((decide (0<=f.epoch) && decide (f.epoch<=200)) && (decide (1<=f.m.1) && decide (f.m.1<=500)) && (decide (0<=f.m.2) && decide (f.m.2<=3)))):=by
 refine zAb func235 λhs=>?_;(refine zG ?_;refine qaa (qaI f.epoch 0 200) zB ?_;refine zV ?_);cases c1:(decide (0<=f.epoch) && decide (f.epoch<=200))
 .exact zy @Ka
 refine zP ?_;(refine zG ?_;refine qaa (qaI f.m.1 1 500) zB ?_;refine zV ?_);cases c2:(decide (1<=f.m.1) && decide (f.m.1<=500))
 .exact zy (zQ @Ka @Kb)
 refine zP ?_;(refine zG ?_;refine qaa (qaI f.m.2 0 3) zB ?_);exact zy @Kc
abbrev qoh:IV:= .p (.sc (.func (.func 237) #[] #[]))
def qps(p:Pc)(hg:gPc p):Pure prog 237 [lPc p] (scb (!tB (qaA p))):=by
 refine zAb func237 λhs=>?_;(refine zG ?_;refine qaa (qm3 p hg) zB ?_;exact zT)
def qpJ(l:List Pc)(hg: ∀p∈l,gPc p):Pure prog 291 [lPs l,qoh] (sci .i64 (qbc (λp=>!tB (qaA p)) 0 l)):=by
 refine zAa func291 λhs=>?_;simp only[go_sem,simprocAttr,maxLen] at hs;refine zV ?_;refine qac 200 200 (λi:Nat=>i<=l.length/\qbc (λp=>!tB (qaA p)) i (l.drop i)=qbc (λp=>!tB (qaA p)) 0 l)
  (λi=>⟨19, [(0,lPs l),(1,qoh),(7,sci .i64 l.length),(8,sci .i64 i)], [],0, []⟩) (λi=>l.length - i) (0) [] ?_ ?_ ?_
 .simp
 .exact zc (zQ @Int.natCast_zero (zQ @Kj.{0} @Ki.{0}))
 .rintro i hi;obtain⟨hi,hinvi⟩:=hi;refine zV ?_;by_cases li:i < l.length
  .rw[qaU li,qbc] at hinvi;(try simp(disch:=omega) only[go_sem,simprocAttr,zD,zE,ePc]);(refine zG ?_;refine qaa (qps l[i] (hg _ (List.getElem_mem li))) zB ?_;refine zV ?_);cases e:tB (qaA l[i])
   .simp only[e,Kd,if_true] at hinvi;exact zy hinvi.symm
   .simp only[e,Ke,Kf,if_false] at hinvi;refine zP ?_;refine⟨i+1, [],⟨wd,hinvi⟩,?_,?_⟩
    ·(try simp only[]);omega
    .exact zc @Ki.{0}
  .obtain rfl:i=l.length:=wa
   rw[Kk] at hinvi;(try simp(disch:=omega) only[go_sem,simprocAttr,zD,zE,<-hinvi,qbc])
def qpB(l:List Pc)(hg: ∀p∈l,gPc p):Pure prog 238 [lPs l,qoh] (scb (!tB (∀p∈l,qaA p))):=by
 have e:decide (0<=qbc (λp=>!tB (qaA p)) 0 l)= !tB (∀p∈l,qaA p):=by
  rw[qmb,<-qgL];refine qcA ?_;rw[qdR];constructor
  .rintro⟨x,hx,h⟩ q;rw[qap (q x hx)] at h;cases h
  .intro h;refine Kl λq=>h λx hx=>?_;refine Kl λq2=>q ⟨x,hx,?_⟩;rw[qah q2];rfl
 refine zAb func238 λhs=>?_;(refine zG ?_;refine qaa (qpJ l hg) zB ?_);exact zy e
def qqB(f:Fm)(hg: ∀p∈f.ps,gPc p):PG prog 236 [lFm f, .ptr 0 0 0 0] [.arr 1 0 [[fCtl]]] 0
  (scb ((decide (1<=f.epoch) && decide (f.epoch<=200)) && (decide (1<=(f.ps.length:Int)) && decide ((f.ps.length:Int)<=6)) && tB (∀p∈f.ps,qaA p))) [(0, .arr 1 0 [[fCtl]])]:=by
 refine zAh func236 1 λhs=>?_;(refine zG ?_;refine qaa (qlh f) zB ?_;refine zV ?_);cases c1:(decide (1<=f.epoch) && decide (f.epoch<=200))
 .exact zy @Ka
 refine zP ?_;(refine zG ?_;refine qaa (qaI f.ps.length 1 6) zB ?_;refine zV ?_);cases c2:(decide (1<=(f.ps.length:Int)) && decide ((f.ps.length:Int)<=6))
 .exact zy (zQ @Ka @Kb)
 refine zP ?_;(refine zG ?_;refine qaa (qpB f.ps hg) zB ?_);exact zy (zQ @Kc @Kg)
abbrev qog:IV:= .p (.sc (.func (.func 292) #[] #[]))
def qlm(n:Int):Pure prog 292 [sci .i64 n] (scb (!tB (0<=n/\n<=5))):=by
 refine zAb func292 λhs=>?_;(refine zG ?_;refine qaa (qaI n 0 5) zB ?_;refine zV ?_);by_cases h:0<=n/\n<=5
 .rw[qap h];exact zy (zQ h.1 h.2)
 .rw[qah h];by_cases h1:0<=n
  .have h2: ¬n<=5:=λq=>h ⟨h1,q⟩
   exact zy (zQ h1 h2)
  .exact zy h1
def qpI(l:List Int):Pure prog 218 [lI l,qog] (sci .i64 (qbc (λx=>!tB (0<=x/\x<=5)) 0 l)):=by
 refine zAa func218 λhs=>?_;simp only[go_sem,simprocAttr,maxLen] at hs;refine zV ?_;refine qac 200 200 (λi:Nat=>i<=l.length/\qbc (λx=>!tB (0<=x/\x<=5)) i (l.drop i)=qbc (λx=>!tB (0<=x/\x<=5)) 0 l)
  (λi=>⟨19, [(0,lI l),(1,qog),(7,sci .i64 l.length),(8,sci .i64 i)], [],0, []⟩) (λi=>l.length - i) (0) [] ?_ ?_ ?_
 .simp
 .exact zc (zQ @Int.natCast_zero (zQ @Kj.{0} @Ki.{0}))
 .rintro i hi;obtain⟨hi,hinvi⟩:=hi;refine zV ?_;by_cases li:i < l.length
  .rw[qaU li,qbc] at hinvi;(try simp(disch:=omega) only[go_sem,simprocAttr,zD,zE,eI]);(refine zG ?_;refine qaa (qlm l[i]) zB ?_;refine zV ?_);cases e:tB (0<=l[i]/\l[i]<=5)
   .simp only[e,Kd,if_true] at hinvi;exact zy hinvi.symm
   .simp only[e,Ke,Kf,if_false] at hinvi;refine zP ?_;refine⟨i+1, [],⟨wd,hinvi⟩,?_,?_⟩
    ·(try simp only[]);omega
    .exact zc @Ki.{0}
  .obtain rfl:i=l.length:=wa
   rw[Kk] at hinvi;(try simp(disch:=omega) only[go_sem,simprocAttr,zD,zE,<-hinvi,qbc])
def qpA(l:List Int):Pure prog 148 [lI l,qog] (scb (!tB (∀x∈l,0<=x/\x<=5))):=by
 have e:decide (0<=qbc (λx=>!tB (0<=x/\x<=5)) 0 l)= !tB (∀x∈l,0<=x/\x<=5):=by
  rw[qmb,<-qgL];refine qcA ?_;rw[qdR];constructor
  .rintro⟨x,hx,h⟩ q;rw[qap (q x hx)] at h;cases h
  .intro h;refine Kl λq=>h λx hx=>?_;refine Kl λq2=>q ⟨x,hx,?_⟩;rw[qah q2];rfl
 refine zAb func148 λhs=>?_;(refine zG ?_;refine qaa (qpI l) zB ?_);exact zy e
def qmU(f:Fm):Pure prog 239 [lFm f]
  (scb (tB (0<=f.init/\f.init<=5) && (decide (1<=f.num) && decide (f.num<=200)) && (decide (0<=f.count) && decide (f.count<=500)) && (decide (1<=(f.path.length:Int)) && decide ((f.path.length:Int)<=6)) && tB (∀x∈f.path,0<=x/\x<=5))):=by
 refine zAb func239 λhs=>?_;(refine zG ?_;refine qaa (qlm f.init) zB ?_;refine zV ?_);cases c0:tB (0<=f.init/\f.init<=5)
 .exact zy @Ka
 refine zP ?_;(refine zG ?_;refine qaa (qaI f.num 1 200) zB ?_;refine zV ?_);cases c1:(decide (1<=f.num) && decide (f.num<=200))
 .exact zy (zQ @Ka @Kb)
 refine zP ?_;(refine zG ?_;refine qaa (qaI f.count 0 500) zB ?_;refine zV ?_);cases c2:(decide (0<=f.count) && decide (f.count<=500))
 .exact zy (zQ @Ka @Kb)
 refine zP ?_;(refine zG ?_;refine qaa (qaI f.path.length 1 6) zB ?_;refine zV ?_);cases c3:(decide (1<=(f.path.length:Int)) && decide ((f.path.length:Int)<=6))
 .exact zy (zQ @Ka @Kb)
 refine zP ?_;(refine zG ?_;refine qaa (qpA f.path) zB ?_);exact zy (zQ @Kc @Kg)
def and2(a b:Prop)[Decidable a][Decidable b]:(decide a && decide b)=tB (a/\b):=by
 rw[<-Bool.decide_and,qgL]
def qdM{a b:Prop}:(tB a && tB b)=tB (a/\b):=by
 by_cases h:a
 .by_cases k:b
  .rw[qap h,qap k,qap ⟨h,k⟩];rfl
  .rw[qah k,qah (P:=a/\b) (λq=>k q.2),Kb]
 .rw[qah h,qah (P:=a/\b) (λq=>h q.1),Ka]
def qmT(f:Fm)(hg: ∀p∈f.ps,gPc p):Pure prog 184 [lFm f] (scb (tB (FrP f))):=by
 by_cases k0:0<=f.kind/\f.kind<=6
 rotate_left
 .have e:tB (FrP f)=false:=qah λq=>k0 (by rcases q with q | q | q | q<;>omega)
  refine zAb func184 λhs=>?_;refine zN [1] [U,U,V [],U,U,U,U,V [5],V [],U,U] ?_;(refine zF ?_;refine qaa (qaI f.kind 0 6) zB ?_;refine zV ?_);have e2:(decide (0<=f.kind) && decide (f.kind<=6))=false:=by rw[and2,qah k0]
  exact zy (zQ e e2)
 have e2:(decide (0<=f.kind) && decide (f.kind<=6))=true:=by rw[and2,qap k0]
 by_cases k1:f=onlyF f
 rotate_left
 .have e:tB (FrP f)=false:=qah λq=>k1 (qqG q)
  have e3:qfL f (onlyF f)=false:=by rw[<-Bool.not_eq_true,qjL];exact k1
  refine zAb func184 λhs=>?_;refine zN [1] [U,U,V [],U,U,U,U,V [5],V [],U,U] ?_;(refine zF ?_;refine qaa (qaI f.kind 0 6) zB ?_);refine zS e2 ?_;refine zX (qjC f) ?_;(refine zF ?_;refine qaa (qh3 f (onlyF f)) zB ?_);exact zy (zQ e3 e)
 have e3:qfL f (onlyF f)=true:=qjL.2 k1;have hon:=qjC f;have hsm:=qh3 f (onlyF f);have r1:=qlh f;have r2:=qqA f;have r3:=qqB f hg;have r6:=qmU f;have hq:=k1;generalize onlyF f=fo at hon hsm e3;obtain⟨f1,f2,⟨f3,f4⟩,f5,f6,f7,f8,f9⟩:=f;clear k1;simp only at k0 e2 r1 r2 r3 r6 hg hon hsm;unfold onlyF at hq;simp only at hq;obtain rfl | h14 | rfl | rfl:f1=0\/(1<=f1/\f1<=4)\/f1=5\/f1=6:=wa
 .obtain⟨rfl,rfl,rfl,rfl,rfl⟩:f5= []/\f6=0/\f7=0/\f8=0/\f9= []:=by simpa using hq
  have e:tB (FrP ⟨0,f2,(f3,f4), [],0,0,0, []⟩)=((decide (0<=f2) && decide (f2<=200)) && (decide (1<=f3) && decide (f3<=500)) && (decide (0<=f4) && decide (f4<=3))):=by
   rw[and2,and2,and2,qdM,qdM];exact qcA (by simp[FrP,qdy,CtlF,qbm,and_assoc])
  rw[e];generalize ((decide (0<=f2) && decide (f2<=200)) && (decide (1<=f3) && decide (f3<=500)) && (decide (0<=f4) && decide (f4<=3)))=res at r2 ⊢;refine zAb func184 λhs=>?_;refine zN [1] [U,U,V [],U,U,U,U,V [5],V [],U,U] ?_;refine zX (qaI 0 0 6) ?_;refine zX hon ?_;(refine zF ?_;refine qaa (hsm) zB ?_);refine zS e3 ?_;refine zN [1,4] [U,U,U,U,U,V [],U] ?_;(refine zF ?_;refine qaa (r2) zB ?_);exact zU
 .obtain⟨rfl,rfl,rfl,rfl,rfl,rfl,rfl⟩:f3=0/\f4=0/\f5= []/\f6=0/\f7=0/\f8=0/\f9= []:=by
   rw[if_neg wa,if_neg wa,if_neg wa] at hq;simpa[and_assoc] using hq
  have e:tB (FrP ⟨f1,f2,(0,0), [],0,0,0, []⟩)=(decide (1<=f2) && decide (f2<=200)):=by
   rw[and2];refine qcA ⟨λh=>?_,λh=> .inr (.inr (.inl ⟨h14,⟨⟨rfl,rfl,rfl,rfl⟩,h,rfl⟩,rfl⟩))⟩;rcases h with ⟨k, -⟩ | ⟨k, -⟩ | ⟨-,⟨-,k, -⟩, -⟩ | ⟨k, -⟩
   .simp only at k;omega
   .simp only at k;omega
   .exact k
   .simp only at k;omega
  rw[e];generalize (decide (1<=f2) && decide (f2<=200))=res at r1 ⊢;obtain rfl | rfl | rfl | rfl:f1=1\/f1=2\/f1=3\/f1=4:=wa
  all_goals
   refine zAb func184 λhs=>?_;refine zN [1] [U,U,V [],U,U,U,U,V [5],V [],U,U] ?_;(refine zF ?_;refine qaa (qaI _ 0 6) zB ?_);refine zP ?_;refine zX hon ?_;(refine zF ?_;refine qaa (hsm) zB ?_);refine zS e3 ?_;refine zN [1,4] [U,U,U,U,U,V [],U] ?_;(refine zF ?_;refine qaa (r1) zB ?_);exact zU
 .obtain⟨rfl,rfl,rfl,rfl,rfl,rfl⟩:f3=0/\f4=0/\f6=0/\f7=0/\f8=0/\f9= []:=by simpa[and_assoc] using hq
  have e:tB (FrP ⟨5,f2,(0,0),f5,0,0,0, []⟩)=((decide (1<=f2) && decide (f2<=200)) && (decide (1<=(f5.length:Int)) && decide ((f5.length:Int)<=6)) && tB (∀p∈f5,qaA p)):=by
   rw[and2,and2,qdM,qdM];refine qcA ⟨λh=>?_,λh=> .inr (.inr (.inr ⟨rfl,⟨⟨rfl,rfl,rfl,rfl⟩,h.1.1,rfl⟩,⟨wc,wc⟩,h.2⟩))⟩;rcases h with ⟨k, -⟩ | ⟨k, -⟩ | ⟨k, -⟩ | ⟨-,⟨-,k, -⟩,k2,k3⟩
   .simp only at k;omega
   .simp only at k;omega
   .simp only at k;omega
   .simp only at k k2 k3;exact⟨⟨k,wa,wa⟩,k3⟩
  rw[e];generalize ((decide (1<=f2) && decide (f2<=200)) && (decide (1<=(f5.length:Int)) && decide ((f5.length:Int)<=6)) && tB (∀p∈f5,qaA p))=res at r3 ⊢;refine zAb func184 λhs=>?_;refine zN [1] [U,U,V [],U,U,U,U,V [5],V [],U,U] ?_;refine zX (qaI 5 0 6) ?_;refine zX hon ?_;(refine zF ?_;refine qaa (hsm) zB ?_);refine zS e3 ?_;refine zN [1,4] [U,U,U,U,U,V [],U] ?_;(refine qbI ?_;refine zW ?_;refine callG_of [1] (r3) zU ?_);exact zU
 .obtain⟨rfl,rfl,rfl,rfl⟩:f2=0/\f3=0/\f4=0/\f5= []:=by simpa[and_assoc] using hq
  have e:tB (FrP ⟨6,0,(0,0), [],f6,f7,f8,f9⟩)=(tB (0<=f6/\f6<=5) && (decide (1<=f7) && decide (f7<=200)) && (decide (0<=f8) && decide (f8<=500)) && (decide (1<=(f9.length:Int)) && decide ((f9.length:Int)<=6)) && tB (∀x∈f9,0<=x/\x<=5)):=by
   rw[and2,and2,and2,qdM,qdM,qdM,qdM];refine qcA ⟨λh=>?_,λh=> .inl ⟨rfl,rfl,rfl,rfl,h.1.1.1.1,h.1.1.1.2,h.1.1.2,⟨wc,wc⟩,h.2⟩⟩;rcases h with ⟨-, -, -, -,k1,k2,k3,k4,k5⟩ | ⟨k, -⟩ | ⟨k, -⟩ | ⟨k, -⟩
   .simp only at k1 k2 k3 k4 k5;exact⟨⟨⟨⟨k1,k2⟩,k3⟩,wa,wa⟩,k5⟩
   .simp only at k;omega
   .simp only at k;omega
   .simp only at k;omega
  rw[e];generalize (tB (0<=f6/\f6<=5) && (decide (1<=f7) && decide (f7<=200)) && (decide (0<=f8) && decide (f8<=500)) && (decide (1<=(f9.length:Int)) && decide ((f9.length:Int)<=6)) && tB (∀x∈f9,0<=x/\x<=5))=res at r6 ⊢;refine zAb func184 λhs=>?_;refine zN [1] [U,U,V [],U,U,U,U,V [5],V [],U,U] ?_;refine zX (qaI 6 0 6) ?_;refine zX hon ?_;(refine zF ?_;refine qaa (hsm) zB ?_);refine zS e3 ?_;refine zN [1,4] [U,U,U,U,U,V [],U] ?_;(refine zF ?_;refine qaa (r6) zB ?_);exact zU
end Go.Proofs.NO
