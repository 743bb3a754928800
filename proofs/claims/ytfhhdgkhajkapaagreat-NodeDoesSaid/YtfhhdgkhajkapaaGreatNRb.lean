/- The document's colour, tree and frames: what may be, what is the same. -/
import Derived.Test.YtfhhdgkhajkapaaGreatNRa
import Derived.Test.YtfhhdgkhajkapaaGreatNNg
import Derived.Test.YtfhhdgkhajkapaaGreatNtA
set_option linter.all false
open True renaming intro->Ka
open List renaming append_assoc->Kb,getElem_mem->Kc,take_of_length_le->Kd,getElem_of_mem->Ke
open Option renaming none->U
open Bool renaming false->V
namespace Go.Proofs.NO
open Go Go.Idl Go.Proofs Go.GP Go.Proofs.Tryz
set_option maxHeartbeats 0
set_option maxRecDepth 100000
def qkW(e o:Int):Pure prog 198 [sci .i64 e,sci .i64 o] (lTr (plantT e o)):=by
 refine pcall0 200 (fn:=f198) func198 rfl (by simp[ntmps198]) zB zB λhs=>?_;by_cases c:o < 0
 ·(try simp(disch:=omega) only[go_sem,simprocAttr,zD,zE,plantT])
 ·(try simp(disch:=omega) only[go_sem,simprocAttr,zD,zE,plantT]);split<;>omega
def qkV(t:Tr)(e l o:Int):Pure prog 260 [lTr t,sci .i64 e,sci .i64 l,sci .i64 o] (.tup [lTr (floodT t e l o).1,scb (floodT t e l o).2]):=by
 obtain⟨ep,up,wt,kd⟩:=t;unfold floodT;refine pcall0 200 (fn:=f260) func260 rfl (by simp[ntmps260]) zB zB λhs=>?_;refine zV ?_;by_cases c:ep=e
 ·(try simp(disch:=omega) only[go_sem,simprocAttr,zD,zE,c])
 .by_cases c2:o < 0
  ·(try simp(disch:=omega) only[go_sem,simprocAttr,zD,zE,c])
  .refine zS c ?_;split<;>omega
def qeK(t:Tr)(e:Int):Pure prog 254 [lTr t,sci .i64 e] (scb (tB (qbn t e))):=by
 obtain⟨ep,up,wt,kd⟩:=t;by_cases c:ep=e
 .subst c;have c:ep=ep:=rfl;by_cases c2:wt < 1
  .have ez:tB (qbn ⟨ep,up,wt,kd⟩ ep)=true:=qaj ⟨c,c2⟩;refine pcall0 200 (fn:=f254) func254 rfl (by simp[ntmps254]) zB zB λhs=>?_;(try simp(disch:=omega) only[go_sem,simprocAttr,zD,zE,c,ez])
  .have ez:tB (qbn ⟨ep,up,wt,kd⟩ ep)=V:=qah λq=>c2 q.2
   refine pcall0 200 (fn:=f254) func254 rfl (by simp[ntmps254]) zB zB λhs=>?_;(try simp(disch:=omega) only[go_sem,simprocAttr,zD,zE,c,ez])
 .have ez:tB (qbn ⟨ep,up,wt,kd⟩ e)=V:=qah λq=>c q.1
  refine pcall0 200 (fn:=f254) func254 rfl (by simp[ntmps254]) zB zB λhs=>?_;(try simp(disch:=omega) only[go_sem,simprocAttr,zD,zE,c,ez])
def qkX(t:Tr)(e l:Int)(y:Bool)(hw:0<=t.wait/\t.wait<=1000000)(hk:t.kids.length<=1000000):Pure prog 203 [lTr t,sci .i64 e,sci .i64 l,scb y] (.tup [lTr (replyT t e l y).1,sci .i64 (replyT t e l y).2]):=by
 obtain⟨ep,up,wt,kd⟩:=t;simp only at hw hk;unfold replyT;refine pcall0 200 (fn:=f203) func203 rfl (by simp[ntmps203]) zB zB λhs=>?_;refine zV ?_;by_cases c:ep=e
 rotate_left
 ·(try simp(maxSteps:=2000000) (disch:=omega) only[go_sem,simprocAttr,zD,zE,c,zTr])
 by_cases c2:wt < 1
 ·(try simp(maxSteps:=2000000) (disch:=omega) only[go_sem,simprocAttr,zD,zE,c,zTr])
 refine zS c ?_;(refine zM [2,3,4,8,114] ?_;refine zI [U,U,U,U,U,U,U,some [0,1,2,3,4,5,6,8,9,12],U,U,some [0,1,2,3,4,5,6,12],U,some [0,1,2,3,4,5,6,7,8,9,10,11],some []] ?_);cases y
 ·(try simp(maxSteps:=2000000) (disch:=omega) only[go_sem,simprocAttr,zD,zE,c,maxLen])
 ·(try simp(maxSteps:=2000000) (disch:=omega) only[go_sem,simprocAttr,zD,zE,c,maxLen])
def qgu(u:Hu)(e:Int):Pure prog 256 [lHu u,sci .i64 e] (scb (decide (e<=u.epoch))):=by
 refine pcall0 200 (fn:=f256) func256 rfl (by simp[ntmps256]) zB zB λhs=>?_;(repeat(first | ((refine zW ?_;try with_reducible exact Ka))))
def qeq(u:Hu)(h:Hs)(e:Int)(hg:gHs h):Pure prog 197 [lHu u,lHs h,sci .i64 e] (.tup [lHu (turnU u h e).1,scb (turnU u h e).2]):=by
 by_cases c:e<=u.epoch
 .have z:turnU u h e=(u,V):=by unfold turnU;rw[if_pos c]
  rw[z];refine pcall0 200 (fn:=f197) func197 rfl (by simp[ntmps197]) zB zB λhs=>?_;((try refine zO ?_);(try with_reducible exact Ka))
 .have z:turnU u h e=(⟨e,pcL h⟩,true):=by unfold turnU;rw[if_neg c]
  rw[z];refine pcall0 200 (fn:=f197) func197 rfl (by simp[ntmps197]) zB zB λhs=>?_;refine zP ?_;(refine zG ?_;refine qaa (qk2 h hg) zB ?_;((try refine zW ?_);(try with_reducible exact Ka)))
def qbV(f:Fm)(hn:f.ps.length<=1000):Pure prog 42 [lFm f] (lFm f):=by
 obtain⟨f1,f2,⟨f3,f4⟩,f5,f6,f7,f8,f9⟩:=f;refine pcall0 200 (fn:=f42) func42 rfl (by simp[ntmps42]) zB zB λhs=>?_;refine zV ?_;(refine zM [1,2,105] ?_;refine zI [U,U,U,U,U,U,U,U,some [0,1,2,3,4,5,9,10,11,12,13,14,15,16],U,U,U,U,U,U,U,U,U,some []] ?_);refine zV ?_;(refine zF ?_;refine qaa (Refs_spec f5 hn) zB ?_);((try refine zW ?_);(try with_reducible exact Ka))
def qoL(f:Fm):Pure prog 112 [lFm f] (scb (tB (qdM f))):=by
 obtain⟨f1,f2,⟨f3,f4⟩,f5,f6,f7,f8,f9⟩:=f;refine pcall0 200 (fn:=f112) func112 rfl (by simp[ntmps112]) zB zB λhs=>?_;refine zV ?_;by_cases c6:f6=0
 rotate_left
 .have ez:tB (qdM ⟨f1,f2,(f3,f4),f5,f6,f7,f8,f9⟩)=V:=qah λq=>c6 (q.1)
  (try simp(maxSteps:=2000000) (disch:=omega) only[go_sem,simprocAttr,zD,zE,ez])
 refine zP ?_;by_cases c7:f7=0
 rotate_left
 .have ez:tB (qdM ⟨f1,f2,(f3,f4),f5,f6,f7,f8,f9⟩)=V:=qah λq=>c7 (q.2.1)
  (try simp(maxSteps:=2000000) (disch:=omega) only[go_sem,simprocAttr,zD,zE,ez])
 refine zP ?_;by_cases c8:f8=0
 rotate_left
 .have ez:tB (qdM ⟨f1,f2,(f3,f4),f5,f6,f7,f8,f9⟩)=V:=qah λq=>c8 (q.2.2.1)
  (try simp(maxSteps:=2000000) (disch:=omega) only[go_sem,simprocAttr,zD,zE,ez])
 refine zP ?_;cases f9 with
 | nil=>
   have ez:tB (qdM ⟨f1,f2,(f3,f4),f5,f6,f7,f8, []⟩)=true:=qaj ⟨c6,c7,c8,rfl⟩;(try simp(maxSteps:=2000000) (disch:=omega) only[go_sem,simprocAttr,zD,zE,ez])
 | cons a r=>
   have ez:tB (qdM ⟨f1,f2,(f3,f4),f5,f6,f7,f8,a::r⟩)=V:=qah λq=>by have:=q.2.2.2;cases this
   (try simp(maxSteps:=2000000) (disch:=omega) only[go_sem,simprocAttr,zD,zE,ez])
def qms(f:Fm):Pure prog 111 [lFm f] (scb (tB (qbk f))):=by
 obtain⟨f1,f2,⟨f3,f4⟩,f5,f6,f7,f8,f9⟩:=f;refine pcall0 200 (fn:=f111) func111 rfl (by simp[ntmps111]) zB zB λhs=>?_;refine zV ?_;by_cases c2:f2=0
 rotate_left
 .have ez:tB (qbk ⟨f1,f2,(f3,f4),f5,f6,f7,f8,f9⟩)=V:=qah λq=>c2 (q.1)
  (try simp(maxSteps:=2000000) (disch:=omega) only[go_sem,simprocAttr,zD,zE,ez])
 refine zP ?_;cases cm:(f3==0 && f4==0) with
 | false=>
   have ez:tB (qbk ⟨f1,f2,(f3,f4),f5,f6,f7,f8,f9⟩)=V:=qah λq=>by
    have:=q.2.1;simp only[Prod.mk.injEq] at this;rw[this.1,this.2] at cm;cases cm
   (try simp(maxSteps:=2000000) (disch:=omega) only[go_sem,simprocAttr,zD,zE,cm,ez])
 | true=>
 obtain⟨rfl,rfl⟩:f3=0/\f4=0:=by simpa using cm
 (try simp(maxSteps:=2000000) (disch:=omega) only[go_sem,simprocAttr,zD,zE,cm]);cases f5 with
 | cons a r=>
   have ez:tB (qbk ⟨f1,f2,(0,0),a::r,f6,f7,f8,f9⟩)=V:=qah λq=>by have:=q.2.2.1;cases this
   (try simp(maxSteps:=2000000) (disch:=omega) only[go_sem,simprocAttr,zD,zE,ez])
 | nil=>
 refine zP ?_;by_cases a1:0<=f6
 rotate_left
 .have ez:tB (qbk ⟨f1,f2,(0,0), [],f6,f7,f8,f9⟩)=V:=qah λq=>a1 (q.2.2.2.1.1)
  (try simp(maxSteps:=2000000) (disch:=omega) only[go_sem,simprocAttr,zD,zE,ez])
 refine zP ?_;by_cases a2:f6<=5
 rotate_left
 .have ez:tB (qbk ⟨f1,f2,(0,0), [],f6,f7,f8,f9⟩)=V:=qah λq=>a2 (q.2.2.2.1.2)
  (try simp(maxSteps:=2000000) (disch:=omega) only[go_sem,simprocAttr,zD,zE,ez])
 refine zP ?_;by_cases a3:1<=f7
 rotate_left
 .have ez:tB (qbk ⟨f1,f2,(0,0), [],f6,f7,f8,f9⟩)=V:=qah λq=>a3 (q.2.2.2.2.1.1)
  (try simp(maxSteps:=2000000) (disch:=omega) only[go_sem,simprocAttr,zD,zE,ez])
 refine zP ?_;by_cases a4:f7<=200
 rotate_left
 .have ez:tB (qbk ⟨f1,f2,(0,0), [],f6,f7,f8,f9⟩)=V:=qah λq=>a4 (q.2.2.2.2.1.2)
  (try simp(maxSteps:=2000000) (disch:=omega) only[go_sem,simprocAttr,zD,zE,ez])
 refine zP ?_;by_cases a5:0<=f8
 rotate_left
 .have ez:tB (qbk ⟨f1,f2,(0,0), [],f6,f7,f8,f9⟩)=V:=qah λq=>a5 (q.2.2.2.2.2.1.1)
  (try simp(maxSteps:=2000000) (disch:=omega) only[go_sem,simprocAttr,zD,zE,ez])
 refine zP ?_;by_cases a6:f8<=500
 rotate_left
 .have ez:tB (qbk ⟨f1,f2,(0,0), [],f6,f7,f8,f9⟩)=V:=qah λq=>a6 (q.2.2.2.2.2.1.2)
  (try simp(maxSteps:=2000000) (disch:=omega) only[go_sem,simprocAttr,zD,zE,ez])
 refine zP ?_;by_cases a7:1<=f9.length
 rotate_left
 .have ez:tB (qbk ⟨f1,f2,(0,0), [],f6,f7,f8,f9⟩)=V:=qah λq=>a7 (q.2.2.2.2.2.2.1.1)
  (try simp(maxSteps:=2000000) (disch:=omega) only[go_sem,simprocAttr,zD,zE,ez])
 refine zP ?_;by_cases a8:f9.length<=6
 rotate_left
 .have ez:tB (qbk ⟨f1,f2,(0,0), [],f6,f7,f8,f9⟩)=V:=qah λq=>a8 (q.2.2.2.2.2.2.1.2)
  (try simp(maxSteps:=2000000) (disch:=omega) only[go_sem,simprocAttr,zD,zE,ez])
 refine zP ?_;(refine walk_trim [1,3] trivial zL ?_;((try refine zW ?_);(try with_reducible exact Ka)));refine qac 200 200 (λi:Nat=>i<=f9.length/\ ∀j (hj:j < f9.length),j < i->0<=f9[j]/\f9[j]<=5)
  (λi=>⟨82, [(1, .ptr 0 0 0 0),(3,sci .i64 i)], [],1, [(0, .arr 9 0 [[sci .i64 f1,sci .i64 f2,sci .i64 0,sci .i64 0,lPs [],sci .i64 f6,sci .i64 f7,sci .i64 f8,lI f9]])]⟩) (λi=>f9.length - i) (0) [] ?_ ?_ ?_
 .simp
 .constructor<;>(try simp(maxSteps:=2000000) (disch:=omega) only[go_sem,simprocAttr,zD,zE,Int.natCast_zero,Kd,Kb])
 .rintro i hi;obtain⟨hi,hinvi⟩:=hi;refine zV ?_;by_cases li:i < f9.length
  .by_cases ci:0<=f9[i]/\f9[i]<=5
   .obtain⟨ci1,ci2⟩:=ci;have hst: ∀j (hj:j < f9.length),j < i+1->0<=f9[j]/\f9[j]<=5:=λj hj hl=>by
     rcases Nat.lt_or_ge j i with q | q
     .exact hinvi j hj q
     .obtain rfl:j=i:=wa
      exact⟨ci1,ci2⟩
    (try simp(maxSteps:=2000000) (disch:=omega) only[go_sem,simprocAttr,zD,zE,eI]);refine⟨i+1, [],⟨wd,hst⟩,?_,?_⟩
    ·(try simp only[]);omega
    .constructor<;>(try simp(maxSteps:=2000000) (disch:=omega) only[go_sem,simprocAttr,zD,zE,Kb])
   .have ez:tB (qbk ⟨f1,f2,(0,0), [],f6,f7,f8,f9⟩)=V:=qah λq=>ci (q.2.2.2.2.2.2.2 _ (Kc li))
    by_cases cj:0<=f9[i]
    .have ck: ¬f9[i]<=5:=λq=>ci ⟨cj,q⟩
     (try simp(maxSteps:=2000000) (disch:=omega) only[go_sem,simprocAttr,zD,zE,eI,ez])
    ·(try simp(maxSteps:=2000000) (disch:=omega) only[go_sem,simprocAttr,zD,zE,eI,ez])
  .have ez:tB (qbk ⟨f1,f2,(0,0), [],f6,f7,f8,f9⟩)=true:=qaj ⟨c2,rfl,rfl,⟨a1,a2⟩,⟨a3,a4⟩,⟨a5,a6⟩,⟨a7,a8⟩,λx hx=>by
    obtain⟨j,hj,rfl⟩:=Ke hx;have hj':j < f9.length:=hj;exact hinvi j hj' wa⟩
   (try simp(maxSteps:=2000000) (disch:=omega) only[go_sem,simprocAttr,zD,zE,ez])
def qbO(f:Fm)(hg: ∀p∈f.ps,gPc p):Pure prog 41 [lFm f] (scb (tB (FrP f))):=by
 obtain⟨f1,f2,⟨f3,f4⟩,f5,f6,f7,f8,f9⟩:=f;simp only at hg;refine pcall0 200 (fn:=f41) func41 rfl (by simp[ntmps41]) zB zB λhs=>?_;simp(maxSteps:=2000000) only[go_sem,simprocAttr,maxLen] at hs;refine zV ?_;by_cases k6:f1=6
 .have ez:tB (FrP ⟨f1,f2,(f3,f4),f5,f6,f7,f8,f9⟩)=tB (qbk ⟨f1,f2,(f3,f4),f5,f6,f7,f8,f9⟩):=qcK ⟨λq=>by
   rcases q with q | q | q | q
   .exact q.2
   .have:=q.1;simp only at this;omega
   .have:=q.1;simp only at this;omega
   .have:=q.1;simp only at this;omega,λq=> .inl ⟨k6,q⟩⟩
  rw[ez];subst k6;refine zP ?_;(refine zG ?_;refine qaa (qms ⟨6,f2,(f3,f4),f5,f6,f7,f8,f9⟩) zB ?_;((try refine zW ?_);(try with_reducible exact Ka)))
 refine zP ?_;by_cases k0:0<=f1
 rotate_left
 .have ez:tB (FrP ⟨f1,f2,(f3,f4),f5,f6,f7,f8,f9⟩)=V:=qah λq=>k0 wW
  (try simp(maxSteps:=2000000) (disch:=omega) only[go_sem,simprocAttr,zD,zE,ez])
 refine zP ?_;by_cases k7:f1<=6
 rotate_left
 .have ez:tB (FrP ⟨f1,f2,(f3,f4),f5,f6,f7,f8,f9⟩)=V:=qah λq=>k7 wW
  (try simp(maxSteps:=2000000) (disch:=omega) only[go_sem,simprocAttr,zD,zE,ez])
 refine zP ?_;(refine zG ?_;refine qaa (qoL ⟨f1,f2,(f3,f4),f5,f6,f7,f8,f9⟩) zB ?_;refine zV ?_);by_cases cb:qdM ⟨f1,f2,(f3,f4),f5,f6,f7,f8,f9⟩
 rotate_left
 .have ez:tB (FrP ⟨f1,f2,(f3,f4),f5,f6,f7,f8,f9⟩)=V:=qah λq=>by
   rcases q with q | q | q | q
   .have:=q.1;simp only at this;omega
   .exact cb q.2.1
   .exact cb q.2.1.1
   .exact cb q.2.1.1
  have eb:=qah cb;(try simp(maxSteps:=2000000) (disch:=omega) only[go_sem,simprocAttr,zD,zE,ez,eb])
 have eb:=qaj cb;refine zS eb ?_;by_cases e0:0<=f2
 rotate_left
 .have ez:tB (FrP ⟨f1,f2,(f3,f4),f5,f6,f7,f8,f9⟩)=V:=qah λq=>e0 (by
   rcases q with q | q | q | q
   .have:=q.1;simp only at this;omega
   .exact q.2.2.1.1
   .have:=q.2.1.2.1;simp only at this;omega
   .have:=q.2.1.2.1;simp only at this;omega)
  (try simp(maxSteps:=2000000) (disch:=omega) only[go_sem,simprocAttr,zD,zE,ez])
 refine zP ?_;by_cases e1:f2<=200
 rotate_left
 .have ez:tB (FrP ⟨f1,f2,(f3,f4),f5,f6,f7,f8,f9⟩)=V:=qah λq=>e1 (by
   rcases q with q | q | q | q
   .have:=q.1;simp only at this;omega
   .exact q.2.2.1.2
   .have:=q.2.1.2.1;simp only at this;omega
   .have:=q.2.1.2.1;simp only at this;omega)
  (try simp(maxSteps:=2000000) (disch:=omega) only[go_sem,simprocAttr,zD,zE,ez])
 refine zP ?_;by_cases z0:f1=0
 .subst z0;refine zP ?_;cases f5 with
  | cons a r=>
    have ez:tB (FrP ⟨0,f2,(f3,f4),a::r,f6,f7,f8,f9⟩)=V:=qah λq=>by
     rcases q with q | q | q | q
     .have:=q.1;simp only at this;omega
     .have:=q.2.2.2.1;cases this
     .have:=q.1;simp only at this;omega
     .have:=q.1;simp only at this;omega
    (try simp(maxSteps:=2000000) (disch:=omega) only[go_sem,simprocAttr,zD,zE,ez])
  | nil=>
  refine zP ?_;by_cases m1:1<=f3/\f3<=500/\0<=f4/\f4<=3
  .have ez:tB (FrP ⟨0,f2,(f3,f4), [],f6,f7,f8,f9⟩)=true:=qaj (.inr (.inl ⟨rfl,cb,⟨e0,e1⟩,rfl,⟨m1.1,m1.2.1⟩,m1.2.2⟩));obtain⟨m1,m2,m3,m4⟩:=m1;(try simp(maxSteps:=2000000) (disch:=omega) only[go_sem,simprocAttr,zD,zE,ez])
  .have ez:tB (FrP ⟨0,f2,(f3,f4), [],f6,f7,f8,f9⟩)=V:=qah λq=>by
    rcases q with q | q | q | q
    .have:=q.1;simp only at this;omega
    .exact m1 ⟨q.2.2.2.2.1.1,q.2.2.2.2.1.2,q.2.2.2.2.2⟩
    .have:=q.1;simp only at this;omega
    .have:=q.1;simp only at this;omega
   by_cases n1:1<=f3
   .by_cases n2:f3<=500
    .by_cases n3:0<=f4
     .have n4: ¬f4<=3:=λq=>m1 ⟨n1,n2,n3,q⟩
      (try simp(maxSteps:=2000000) (disch:=omega) only[go_sem,simprocAttr,zD,zE,ez])
     ·(try simp(maxSteps:=2000000) (disch:=omega) only[go_sem,simprocAttr,zD,zE,ez])
    ·(try simp(maxSteps:=2000000) (disch:=omega) only[go_sem,simprocAttr,zD,zE,ez])
   ·(try simp(maxSteps:=2000000) (disch:=omega) only[go_sem,simprocAttr,zD,zE,ez])
 refine zP ?_;by_cases e2:1<=f2
 rotate_left
 .have ez:tB (FrP ⟨f1,f2,(f3,f4),f5,f6,f7,f8,f9⟩)=V:=qah λq=>e2 (by
   rcases q with q | q | q | q
   .have:=q.1;simp only at this;omega
   .have:=q.1;simp only at this;omega
   .have:=q.2.1.2.1;simp only at this;omega
   .have:=q.2.1.2.1;simp only at this;omega)
  (try simp(maxSteps:=2000000) (disch:=omega) only[go_sem,simprocAttr,zD,zE,ez])
 refine zP ?_;cases cm:(f3==0 && f4==0) with
 | false=>
   have ez:tB (FrP ⟨f1,f2,(f3,f4),f5,f6,f7,f8,f9⟩)=V:=qah λq=>by
    have:f3=0/\f4=0:=by
     rcases q with q | q | q | q
     .have:=q.1;simp only at this;omega
     .have:=q.1;simp only at this;omega
     .have:=q.2.1.2.2;simpa using this
     .have:=q.2.1.2.2;simpa using this
    rw[this.1,this.2] at cm;cases cm
   (try simp(maxSteps:=2000000) (disch:=omega) only[go_sem,simprocAttr,zD,zE,cm,ez])
 | true=>
 obtain⟨rfl,rfl⟩:f3=0/\f4=0:=by simpa using cm
 refine zS cm ?_;by_cases z5:f1=5
 rotate_left
 .refine zP ?_;cases f5 with
  | nil=>
    have ez:tB (FrP ⟨f1,f2,(0,0), [],f6,f7,f8,f9⟩)=true:=qaj (.inr (.inr (.inl ⟨we,⟨cb,⟨e2,e1⟩,rfl⟩,rfl⟩)));(try simp(maxSteps:=2000000) (disch:=omega) only[go_sem,simprocAttr,zD,zE,ez])
  | cons a r=>
    have ez:tB (FrP ⟨f1,f2,(0,0),a::r,f6,f7,f8,f9⟩)=V:=qah λq=>by
     rcases q with q | q | q | q
     .have:=q.1;simp only at this;omega
     .have:=q.1;simp only at this;omega
     .have:=q.2.2;cases this
     .have:=q.1;simp only at this;omega
    (try simp(maxSteps:=2000000) (disch:=omega) only[go_sem,simprocAttr,zD,zE,ez])
 subst z5;refine zP ?_;(refine walk_trim [1,3] trivial zL ?_;((try refine zW ?_);(try with_reducible exact Ka)));refine qac 200 200 (λi:Nat=>i<=f5.length/\ ∀j (hj:j < f5.length),j < i->qaD f5[j])
  (λi=>⟨115, [(1, .ptr 0 0 0 0),(3,sci .i64 i)], [],1, [(0, .arr 9 0 [[sci .i64 5,sci .i64 f2,sci .i64 0,sci .i64 0,lPs f5,sci .i64 f6,sci .i64 f7,sci .i64 f8,lI f9]])]⟩) (λi=>f5.length - i) (0) [] ?_ ?_ ?_
 .simp
 .constructor<;>(try simp(maxSteps:=2000000) (disch:=omega) only[go_sem,simprocAttr,zD,zE,Int.natCast_zero,Kd,Kb])
 .rintro i hi;obtain⟨hi,hinvi⟩:=hi;refine zV ?_;by_cases li:i < f5.length
  ·(try simp(maxSteps:=2000000) (disch:=omega) only[go_sem,simprocAttr,zD,zE,ePc]);(refine zG ?_;refine qaa (qmq f5[i] (hg _ (Kc li))) zB ?_;refine zV ?_);by_cases ci:qaD f5[i]
   .have ei:=qaj ci;have hst: ∀j (hj:j < f5.length),j < i+1->qaD f5[j]:=λj hj hl=>by
     rcases Nat.lt_or_ge j i with q | q
     .exact hinvi j hj q
     .obtain rfl:j=i:=wa
      exact ci
    refine zS ei ?_;refine⟨i+1, [],⟨wd,hst⟩,?_,?_⟩
    ·(try simp only[]);omega
    .constructor<;>(try simp(maxSteps:=2000000) (disch:=omega) only[go_sem,simprocAttr,zD,zE,Kb])
   .have ei:=qah ci;have ez:tB (FrP ⟨5,f2,(0,0),f5,f6,f7,f8,f9⟩)=V:=qah λq=>by
     rcases q with q | q | q | q
     .have:=q.1;simp only at this;omega
     .have:=q.1;simp only at this;omega
     .have:=q.1;simp only at this;omega
     .exact ci (q.2.2.2 _ (Kc li))
    (try simp(maxSteps:=2000000) (disch:=omega) only[go_sem,simprocAttr,zD,zE,ei,ez])
  .by_cases cl:1<=f5.length/\f5.length<=6
   .have ez:tB (FrP ⟨5,f2,(0,0),f5,f6,f7,f8,f9⟩)=true:=qaj (.inr (.inr (.inr ⟨rfl,⟨cb,⟨e2,e1⟩,rfl⟩,cl,λx hx=>by
     obtain⟨j,hj,rfl⟩:=Ke hx;have hj':j < f5.length:=hj;exact hinvi j hj' wa⟩)))
    obtain⟨cl1,cl2⟩:=cl;(try simp(maxSteps:=2000000) (disch:=omega) only[go_sem,simprocAttr,zD,zE,ez])
   .have ez:tB (FrP ⟨5,f2,(0,0),f5,f6,f7,f8,f9⟩)=V:=qah λq=>by
     rcases q with q | q | q | q
     .have:=q.1;simp only at this;omega
     .have:=q.1;simp only at this;omega
     .have:=q.1;simp only at this;omega
     .exact cl q.2.2.1
    by_cases cl1:1<=f5.length
    .have cl2: ¬f5.length<=6:=λq=>cl ⟨cl1,q⟩
     (try simp(maxSteps:=2000000) (disch:=omega) only[go_sem,simprocAttr,zD,zE,ez])
    ·(try simp(maxSteps:=2000000) (disch:=omega) only[go_sem,simprocAttr,zD,zE,ez])
end Go.Proofs.NO
