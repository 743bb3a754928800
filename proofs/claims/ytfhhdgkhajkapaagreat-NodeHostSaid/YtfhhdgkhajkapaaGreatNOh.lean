/- A node's application is what its host alone does: the walk of NodeHost. -/
import Derived.Test.YtfhhdgkhajkapaaGreatNOf
set_option linter.all false
open List renaming append_assoc->Ka,replicate->Kb,take_of_length_le->Kc,getElem_mem->Kd,mem_of_getElem?->Ke
open True renaming intro->Kf
open Int renaming natCast_zero->Kg
open Option renaming none->U,some->V
namespace Go.Proofs.NO
open Go Go.Idl Go.Proofs Go.GP Go.Proofs.Tryz
set_option maxHeartbeats 0
set_option maxRecDepth 100000
def NodeHost_pure(s0:Sc)(n0:Int)(L:List Op):
  Pure prog 7 [lApp s0,sci .i64 n0,lOps L] (scb true):=by
 obtain⟨k8,kl,ko⟩:=ok_cut s0;refine pcall0 200 (fn:=Tryz.f7) func7 rfl (by simp[ntmps7]) zB zB λhs=>?_;(try simp(maxSteps:=2000000) only[go_sem,simprocAttr]);(refine zG ?_;refine qaa (qnW s0) zB ?_;(try simp(maxSteps:=2000000) only[go_sem,simprocAttr]));generalize cutSc s0=s at *;have hT:=qrr k8 ko;(try simp(maxSteps:=2000000) only[go_sem,simprocAttr]);(refine zG ?_;refine qaa (qnV s k8 ko) zB ?_;(try simp(maxSteps:=2000000) only[go_sem,simprocAttr]));obtain⟨N,ls,T,ff,room,acts⟩:=s;simp only at k8 kl ko hT;(refine zG ?_;refine qaa (qkU N ls T hT) zB ?_;(try simp(maxSteps:=2000000) only[go_sem,simprocAttr]));by_cases hH:TabP N ls T
 .have eH:=qap hH;refine zS eH ?_;have hN:=hH.1.1;obtain⟨m,hm⟩: ∃m:Nat,(m:Int)=if n0 < 0\/N<=n0 then 0 else n0:=by
   split
   .exact⟨0,rfl⟩
   .exact⟨n0.toNat,wa⟩
  have hmN:(m:Int) < N:=by rw[hm];split<;>omega
  have hmT:m < T.length:=by have:=hH.2.1;omega
  have hx:=List.getElem?_eq_getElem hmT;generalize T[m]=nd at hx;have hnew:=NOk.new (qsg hH hx) rfl;refine zN [1,2,3,7] [U,U,V [3,4,6,7],U,U,V [6,7],V [0,1,2,3,4,5,7],V [0,1,2,3,4,5,6],V [],V []] ?_;refine zX (qpQ N ls T ff n0 m nd kl hm hx) ?_;(refine zF ?_;refine qaa (qn5 N ls T ff 0 [] n0 m nd kl hm hx) zB ?_;(try simp(maxSteps:=2000000) only[go_sem,simprocAttr]));have hn0:(newN ⟨m,nd.start,0,Kb (ins m 0 ls).length [],Kb (outs m 0 ls).length []⟩).h=⟨m,nd.start,0,Kb (ins m 0 ls).length [],Kb (outs m 0 ls).length []⟩:=rfl;generalize hh0:(⟨m,nd.start,0,Kb (ins m 0 ls).length [],Kb (outs m 0 ls).length []⟩:Hs)=h0 at *;have e1:(m:Int)=h0.node:=by rw[<-hh0]
  have e2:nd.start=h0.state:=by rw[<-hh0]
  have e3:(0:Int)=h0.steps:=by rw[<-hh0]
  have e4:Kb (ins m 0 ls).length []=h0.inn:=by rw[<-hh0]
  have e5:Kb (outs m 0 ls).length []=h0.out:=by rw[<-hh0]
  generalize newN h0=x0 at *;subst hn0;(try simp(maxSteps:=2000000) (disch:=omega) only[go_sem,simprocAttr,zD,zE]);refine zM [2,3,7,8,9,10] ?_;refine qac 200 200 (λi:Nat × No=>i.1<=L.length/\i.1<=40/\NOk N ls T i.1 i.2)
   (λi=>⟨278, [(2,lOps L),(3, .ptr 0 0 0 0),(7, .ptr 1 0 0 0),(8, .ptr 2 0 0 0),(9, .ptr 3 0 0 0),(10,sci .i64 i.1)], [],4, [(3, .arr 5 0 [[sci .i64 i.2.h.node,sci .i64 i.2.h.state,sci .i64 i.2.h.steps,lMs i.2.h.inn,lLs i.2.h.out]]),(2, .arr 28 0 [cNo i.2]),(1, .arr 4 0 [[sci .i64 N, .p (.imm 2 (pr eII ls)), .p (.imm 2 (pr eNd T)),scb ff]]),(0, .arr 4 0 [[sci .i64 N, .p (.imm 2 (pr eII ls)), .p (.imm 2 (pr eNd T)),scb ff]])]⟩) (λi=>40 - i.1) (0,x0) [] ?_ ?_ ?_
  .exact⟨Nat.zero_le _,Nat.zero_le _,hnew⟩
  .rw[e1] at e4 e5;exact zc (zQ @Kg (zQ e1 (zQ e2 (zQ e3.symm (zQ e4 e5)))))
  .clear hnew hm hmN hmT hx hh0 e1 e2 e3 e4 e5;rintro⟨i,x⟩ ⟨i1,i2,i3⟩;simp only at i1 i2 i3;obtain⟨gh,i5⟩:=i3.gH;have hRx:=qn0 x.h;have hSx:=qk2 x.h gh;(try simp(maxSteps:=2000000) only[go_sem,simprocAttr]);by_cases hlt:i < L.length/\i < 40
   .obtain⟨hl1,hl2⟩:=hlt;obtain⟨nn,j,nd',hf⟩:=i3.hf;have hwt:(stOf T x.h).waits.length<=1000:=by
     have:=((ko nd' (Ke hf.hx)).2 _ (Ke hf.hq)).1;omega
    generalize hp:L[i]=p at *;obtain⟨kind,en,link,f⟩:=p;have hgp:=qrM f;have hC:=qnZ f;have hst:=i3.st;have hP4:=qp3 i3 wa en;have hPk:=qoA N ls T ff x en i i3 kl wa;have hP9:=qhg ⟨N,ls,T,ff,0, []⟩ x.h en nn j nd' (stOf T x.h) hf.hn hf.hj hf.hx hf.hq gh kl (λp hp=>⟨by have:=(hf.picks p hp).2.1;omega,λy hy=>((hf.picks p hp).2.2 y hy).1⟩) hf.outl (λl hl=>(hf.lets l hl).1) hf.st0;have hT9:=R9Take_spec ⟨N,ls,T,ff,0, []⟩ x.h link (cutF f).m nn j nd' (stOf T x.h) hf.hn hf.hj hf.hx hf.hq gh kl (((hT.2 nn nd' hf.hx).2 j _ hf.hq).2.2) hf.inl hf.rows ⟨hf.st0.1,wa⟩;have hSr:=qmJ N ls T ff x en i i3 wa wa kl;have hHr:=qo5 N ls T ff x link (cutF f) i i3 wa wa kl hT hwt hgp;have pF:=qpE (ff:=ff) i3 wa en;have sF:=host_start (ls:=ls) (ff:=ff) (x:=x) (e:=en);have hF:=qpD (ls:=ls) (ff:=ff) (st:=stOf T x.h) (x:=x) (link:=link) (f:=cutF f);have aF:=qqL (ls:=ls) (ff:=ff) (st:=stOf T x.h) (x:=x) (link:=link) (f:=cutF f);have pO:=λhe=>i3.pick wa ff en he
    have sO:=λhe=>(i3.start wa ff en he).mono (u:=i+1) wa
    have hO:=λhe=>i3.hear wa wa ff link (cutF f) he
    have pE:=qrk (ls:=ls) (ff:=ff) (st:=stOf T x.h) (x:=x) (k:=en);have sE:=start_err (ls:=ls) (ff:=ff) (x:=x) (e:=en);have hE:=hear_err (ls:=ls) (ff:=ff) (st:=stOf T x.h) (x:=x) (link:=link) (f:=cutF f);have sB:=λhe=>(qpn (ff:=ff) i3 wa en he).o
    have hB:=λhe=>(qqw (ff:=ff) i3 wa link (cutF f) hwt he).o
    generalize pickN ls ff (stOf T x.h) x en=dp at *;generalize startN ls ff x en=ds at *;generalize hearN ls ff (stOf T x.h) x link (cutF f)=dh at *;generalize pickH ls (stOf T x.h) x.h en=r at *;generalize cutF f=q at *;generalize takeH ls (stOf T x.h) x.h link q.m=tk at *;have i4:=i3.mono (u:=i+1) wa;have hu:=i3.u0;obtain⟨q1,q2,⟨q3,q4⟩,q5,q6,q7,q8,q9⟩:=q;clear hf i3 hgp hwt hst;(try simp(maxSteps:=2000000) (disch:=omega) only[go_sem,simprocAttr,zD,zE,eOpN,hp]);refine zY hC ?_;refine zN [2,3,7,8,9,10,11] [U,U,V [3],U,V [],U] ?_;refine zX hRx ?_;(refine zF ?_;refine qaa (hSx) zB ?_);(try simp(maxSteps:=2000000) (disch:=omega) only[go_sem,simprocAttr,zD,zE,eOpN,hp]);cases c0:(bits .and .i64 kind 3==0) with
    | true=>
      have ck:(bits .and .i64 kind 3 != 0)=false:=by rw[bne,c0];rfl
      clear hSr hHr sF hF aF sO hO sE hE sB hB ds dh hT9 tk;obtain⟨p1,p2,p3,p4⟩:=pF;obtain⟨g,S,e⟩:=r;simp only at p1 p2 p3 hP9 hP4;have hSl:dp.out.length=S.length:=by rw[p2,List.length_map]
      have hSk: ∀(k:Nat) (h:k < S.length) (h':k < dp.out.length),dp.out[k]=sOu (if ff=true then 0 else x.u.epoch) S[k]:=λk h h'=>by simp only[p2,List.getElem_map]
      have pz:dp.e≠0->dp.out= []:=λq=>by rw[pE q];rfl
      obtain⟨y,out,ps,path,e'⟩:=dp;simp only at p1 p2 p3 p4 hPk hSl hSk pO pz;subst p1;clear p2 pE;have hSl2:(out.length:Int)=(S.length:Int):=by rw[hSl]
      refine zS c0 ?_;(refine zM [2,3,7,8,9,10,12] ?_;refine zI [U,U,U,U,U,U,U,V [],U,U,U,U,V [10,11],U,U] ?_);(try simp(maxSteps:=2000000) (disch:=omega) only[go_sem,simprocAttr,zD,zE,eOpN,hp]);refine zX hPk ?_;(refine zM [2,3,7,8,9,10,12,13,14] ?_;refine zI [U,U,U,U,U,U,U,V [12],U,U,U,U,V [0,1,2,3,4,5,6,7,8,9,10,11],V [10,11],U,U] ?_);(try simp(maxSteps:=2000000) (disch:=omega) only[go_sem,simprocAttr,zD,zE,eOpN,hp]);(refine zF ?_;refine qaa (hP9) zB ?_);refine zS (zQ hSl2 (zQ @beq_self_eq_true.{0} @bne_self_eq_false.{0})) ?_;refine zM [2,3,7,8,9,10,12,13,14,15,16,18] ?_;refine qac 200 200 (λk:Nat=>k<=out.length)
       (λk=>⟨278, [(2,lOps L),(3, .ptr 0 0 0 0),(7, .ptr 1 0 0 0),(8, .ptr 2 0 0 0),(9, .ptr 3 0 0 0),(10,sci .i64 i),(12, .ptr 5 0 0 0),(13,sci .i64 e'),(14,lOus out),(15, .ptr 6 0 0 0),(16,lSt3 S),(18,sci .i64 k)], [],7, [(6, .arr 5 0 [[sci .i64 g.node,sci .i64 g.state,sci .i64 g.steps,lMs g.inn,lLs g.out]]),(5, .arr 28 0 [cNo y]),(3, .arr 5 0 [[sci .i64 x.h.node,sci .i64 x.h.state,sci .i64 x.h.steps,lMs x.h.inn,lLs x.h.out]]),(2, .arr 28 0 [cNo x]),(1, .arr 4 0 [[sci .i64 N, .p (.imm 2 (pr eII ls)), .p (.imm 2 (pr eNd T)),scb ff]]),(0, .arr 4 0 [[sci .i64 N, .p (.imm 2 (pr eII ls)), .p (.imm 2 (pr eNd T)),scb ff]])]⟩) (λk=>out.length - k) (0) [] ?_ ?_ ?_
      .simp
      .exact zc (zQ @Kg (zQ @Kc.{0} @Ka.{0}))
      .rintro k hk;(try simp(maxSteps:=2000000) only[go_sem,simprocAttr]);by_cases lk:k < out.length
       .have hk1:k < S.length:=wa
        have hek:=hSk k hk1 lk;generalize hoq:out[k]=o at *;generalize hsq:S[k]=s at *;obtain⟨s1,s2,s3⟩:=s;simp only[sOu] at hek;subst hek;cases ff;all_goals
         (try simp(maxSteps:=2000000) (disch:=omega) only[go_sem,simprocAttr,zD,zE]);(refine zM [2,3,7,8,9,10,12,13,14,15,16,18] ?_;refine zI (U::U::U::U::U::U::U::U::U::U::U::U::U::U::U::U::U::U::U::U::U::U::U::U::U::U::U::U::U::U::U::U::U::U::U::U::U::U::U::U::U::U::U::U::U::U::U:: []) ?_);(try simp(maxSteps:=2000000) (disch:=omega) only[go_sem,simprocAttr,zD,zE,eOu,eIII,hoq,hsq,beq_self_eq_true,bne_self_eq_false,Bool.true_and,Bool.not_true]);refine⟨k+1, [],wd,?_,?_⟩
         ·(try simp only[]);omega
         .exact zc @Ka.{0}
       .obtain rfl:k=out.length:=wa
        by_cases he:e'=0
        .subst he;have hyh:=p3 rfl;have ok:=pO rfl;have hfr: ∀o∈out,True/\FOk o:=λo ho=>⟨trivial,p4 o ho⟩
         (try simp(maxSteps:=2000000) (disch:=omega) only[go_sem,simprocAttr,zD,zE]);refine zM [2,3,7,8,9,10,12,13,14,21] ?_;refine qac 200 200 (λk:Nat=>k<=out.length)
          (λk=>⟨278, [(2,lOps L),(3, .ptr 0 0 0 0),(7, .ptr 1 0 0 0),(8, .ptr 2 0 0 0),(9, .ptr 3 0 0 0),(10,sci .i64 i),(12, .ptr 5 0 0 0),(13,sci .i64 0),(14,lOus out),(21,sci .i64 k)], [],6, [(5, .arr 28 0 [cNo y]),(3, .arr 5 0 [[sci .i64 g.node,sci .i64 g.state,sci .i64 g.steps,lMs g.inn,lLs g.out]]),(2, .arr 28 0 [cNo x]),(1, .arr 4 0 [[sci .i64 N, .p (.imm 2 (pr eII ls)), .p (.imm 2 (pr eNd T)),scb ff]]),(0, .arr 4 0 [[sci .i64 N, .p (.imm 2 (pr eII ls)), .p (.imm 2 (pr eNd T)),scb ff]])]⟩) (λk=>out.length - k) (0) [] ?_ ?_ ?_
         .simp
         .exact zc (zQ @Kg (zQ @Kc.{0} @Ka.{0}))
         .rintro k hk;(try simp(maxSteps:=2000000) only[go_sem,simprocAttr]);by_cases lk:k < out.length
          .have hf1:=hfr _ (Kd lk);generalize hoq:out[k]=o at *;obtain⟨ol,fk,fe,⟨fm1,fm2⟩,fps,fi,fn,fc,fpa⟩:=o;obtain⟨z1,z2⟩:=hf1;simp only[FOk] at z1 z2;rcases z2 with rfl | rfl | ⟨z2,z3⟩
           ·(try simp(maxSteps:=2000000) (disch:=omega) only[go_sem,simprocAttr,zD,zE,eOpN,hp,eOu,hoq,ck]);refine⟨k+1, [],wd,?_,?_⟩
            ·(try simp only[]);omega
            .exact zc @Ka.{0}
           ·(try simp(maxSteps:=2000000) (disch:=omega) only[go_sem,simprocAttr,zD,zE,eOpN,hp,eOu,hoq,ck]);refine⟨k+1, [],wd,?_,?_⟩
            ·(try simp only[]);omega
            .exact zc @Ka.{0}
           .subst z3;have z4:=qap z2;have r1:=qcC ⟨fk,fe,(fm1,fm2), [],fi,fn,fc,fpa⟩ wb;have r2:=qbV ⟨fk,fe,(fm1,fm2), [],fi,fn,fc,fpa⟩ wb;rw[z4] at r2;by_cases w5:fk=5
            .subst w5;(try simp(maxSteps:=2000000) (disch:=omega) only[go_sem,simprocAttr,zD,zE,eOpN,hp,eOu,hoq,ck]);refine⟨k+1, [],wd,?_,?_⟩
             ·(try simp only[]);omega
             .exact zc @Ka.{0}
            by_cases w6:fk=6
            .subst w6;(try simp(maxSteps:=2000000) (disch:=omega) only[go_sem,simprocAttr,zD,zE,eOpN,hp,eOu,hoq,ck]);refine⟨k+1, [],wd,?_,?_⟩
             ·(try simp only[]);omega
             .exact zc @Ka.{0}
            (try simp(maxSteps:=2000000) (disch:=omega) only[go_sem,simprocAttr,zD,zE,eOpN,hp,eOu,hoq,ck]);refine zY r1 ?_;refine zY r2 ?_;refine⟨k+1, [],wd,?_,?_⟩
            ·(try simp only[]);omega
            .exact zc @Ka.{0}
          .obtain rfl:k=out.length:=wa
           (try simp(maxSteps:=2000000) (disch:=omega) only[go_sem,simprocAttr,zD,zE]);refine⟨(i+1,y), [],⟨hl1,hl2,ok⟩,wc,?_⟩;exact zc hyh
        .have hz:=pz he;have hfr: ∀o∈out,True/\FOk o:=λo ho=>by rw[hz] at ho;cases ho
         have eb:(e'==0)=false:=beq_eq_false_iff_ne.2 he;refine zS eb ?_;refine zM [2,3,7,8,9,10,12,13,14,21] ?_;refine qac 200 200 (λk:Nat=>k<=out.length)
          (λk=>⟨278, [(2,lOps L),(3, .ptr 0 0 0 0),(7, .ptr 1 0 0 0),(8, .ptr 2 0 0 0),(9, .ptr 3 0 0 0),(10,sci .i64 i),(12, .ptr 5 0 0 0),(13,sci .i64 e'),(14,lOus out),(21,sci .i64 k)], [],6, [(5, .arr 28 0 [cNo y]),(3, .arr 5 0 [[sci .i64 x.h.node,sci .i64 x.h.state,sci .i64 x.h.steps,lMs x.h.inn,lLs x.h.out]]),(2, .arr 28 0 [cNo x]),(1, .arr 4 0 [[sci .i64 N, .p (.imm 2 (pr eII ls)), .p (.imm 2 (pr eNd T)),scb ff]]),(0, .arr 4 0 [[sci .i64 N, .p (.imm 2 (pr eII ls)), .p (.imm 2 (pr eNd T)),scb ff]])]⟩) (λk=>out.length - k) (0) [] ?_ ?_ ?_
         .simp
         .exact zc (zQ @Kg (zQ @Kc.{0} @Ka.{0}))
         .rintro k hk;(try simp(maxSteps:=2000000) only[go_sem,simprocAttr]);by_cases lk:k < out.length
          .have hf1:=hfr _ (Kd lk);generalize hoq:out[k]=o at *;obtain⟨ol,fk,fe,⟨fm1,fm2⟩,fps,fi,fn,fc,fpa⟩:=o;obtain⟨z1,z2⟩:=hf1;simp only[FOk] at z1 z2;rcases z2 with rfl | rfl | ⟨z2,z3⟩
           ·(try simp(maxSteps:=2000000) (disch:=omega) only[go_sem,simprocAttr,zD,zE,eOpN,hp,eOu,hoq,ck]);refine⟨k+1, [],wd,?_,?_⟩
            ·(try simp only[]);omega
            .exact zc @Ka.{0}
           ·(try simp(maxSteps:=2000000) (disch:=omega) only[go_sem,simprocAttr,zD,zE,eOpN,hp,eOu,hoq,ck]);refine⟨k+1, [],wd,?_,?_⟩
            ·(try simp only[]);omega
            .exact zc @Ka.{0}
           .subst z3;have z4:=qap z2;have r1:=qcC ⟨fk,fe,(fm1,fm2), [],fi,fn,fc,fpa⟩ wb;have r2:=qbV ⟨fk,fe,(fm1,fm2), [],fi,fn,fc,fpa⟩ wb;rw[z4] at r2;by_cases w5:fk=5
            .subst w5;(try simp(maxSteps:=2000000) (disch:=omega) only[go_sem,simprocAttr,zD,zE,eOpN,hp,eOu,hoq,ck]);refine⟨k+1, [],wd,?_,?_⟩
             ·(try simp only[]);omega
             .exact zc @Ka.{0}
            by_cases w6:fk=6
            .subst w6;(try simp(maxSteps:=2000000) (disch:=omega) only[go_sem,simprocAttr,zD,zE,eOpN,hp,eOu,hoq,ck]);refine⟨k+1, [],wd,?_,?_⟩
             ·(try simp only[]);omega
             .exact zc @Ka.{0}
            (try simp(maxSteps:=2000000) (disch:=omega) only[go_sem,simprocAttr,zD,zE,eOpN,hp,eOu,hoq,ck]);refine zY r1 ?_;refine zY r2 ?_;refine⟨k+1, [],wd,?_,?_⟩
            ·(try simp only[]);omega
            .exact zc @Ka.{0}
          .obtain rfl:k=out.length:=wa
           refine zS eb ?_;refine⟨(i+1,x), [],⟨hl1,hl2,i4⟩,wc,?_⟩;constructor<;>exact zU
    | false=>
      have ck:(bits .and .i64 kind 3 != 0)=true:=by rw[bne,c0];rfl
      clear hPk hP9 hP4 pF pO pE dp;cases c1:(bits .and .i64 kind 3==1) with
      | true=>
        clear hHr hF aF hO hE hB dh hT9 tk;obtain⟨y,out,ps,path,e⟩:=ds;simp only at sF sO sE hSr sB;refine zS (zQ c0 c1) ?_;(refine zM [2,3,7,8,9,10,12] ?_;refine zI [U,U,U,U,U,U,U,V [],U,U,U,U,U,V [10,11,12],U,U] ?_);(try simp(maxSteps:=2000000) (disch:=omega) only[go_sem,simprocAttr,zD,zE,eOpN,hp]);(refine zF ?_;refine qaa (hSr) zB ?_;(try simp(maxSteps:=2000000) only[go_sem,simprocAttr]));by_cases he:e=0
        .subst he;obtain⟨hyh,hfr⟩:=sF rfl;have ok:=sO rfl;have hol:=sB rfl;(try simp(maxSteps:=2000000) (disch:=omega) only[go_sem,simprocAttr,zD,zE]);refine zM [2,3,7,8,9,10,12,13,14,21] ?_;refine qac 200 200 (λk:Nat=>k<=out.length)
          (λk=>⟨278, [(2,lOps L),(3, .ptr 0 0 0 0),(7, .ptr 1 0 0 0),(8, .ptr 2 0 0 0),(9, .ptr 3 0 0 0),(10,sci .i64 i),(12, .ptr 5 0 0 0),(13,sci .i64 0),(14,lOus out),(21,sci .i64 k)], [],6, [(5, .arr 28 0 [cNo y]),(3, .arr 5 0 [[sci .i64 x.h.node,sci .i64 x.h.state,sci .i64 x.h.steps,lMs x.h.inn,lLs x.h.out]]),(2, .arr 28 0 [cNo x]),(1, .arr 4 0 [[sci .i64 N, .p (.imm 2 (pr eII ls)), .p (.imm 2 (pr eNd T)),scb ff]]),(0, .arr 4 0 [[sci .i64 N, .p (.imm 2 (pr eII ls)), .p (.imm 2 (pr eNd T)),scb ff]])]⟩) (λk=>out.length - k) (0) [] ?_ ?_ ?_
         .simp
         .exact zc (zQ @Kg (zQ @Kc.{0} @Ka.{0}))
         .rintro k hk;(try simp(maxSteps:=2000000) only[go_sem,simprocAttr]);by_cases lk:k < out.length
          .have hf1:=hfr _ (Kd lk);generalize hoq:out[k]=o at *;obtain⟨ol,fk,fe,⟨fm1,fm2⟩,fps,fi,fn,fc,fpa⟩:=o;obtain⟨z1,z2⟩:=hf1;simp only[FOk] at z1 z2;rcases z2 with rfl | rfl | ⟨z2,z3⟩
           ·(try simp(maxSteps:=2000000) (disch:=omega) only[go_sem,simprocAttr,zD,zE,eOpN,hp,eOu,hoq,ck,z1]);refine⟨k+1, [],wd,?_,?_⟩
            ·(try simp only[]);omega
            .exact zc @Ka.{0}
           ·(try simp(maxSteps:=2000000) (disch:=omega) only[go_sem,simprocAttr,zD,zE,eOpN,hp,eOu,hoq,ck,z1]);refine⟨k+1, [],wd,?_,?_⟩
            ·(try simp only[]);omega
            .exact zc @Ka.{0}
           .subst z3;have z4:=qap z2;have r1:=qcC ⟨fk,fe,(fm1,fm2), [],fi,fn,fc,fpa⟩ wb;have r2:=qbV ⟨fk,fe,(fm1,fm2), [],fi,fn,fc,fpa⟩ wb;rw[z4] at r2;by_cases w5:fk=5
            .subst w5;(try simp(maxSteps:=2000000) (disch:=omega) only[go_sem,simprocAttr,zD,zE,eOpN,hp,eOu,hoq,ck,z1]);refine⟨k+1, [],wd,?_,?_⟩
             ·(try simp only[]);omega
             .exact zc @Ka.{0}
            by_cases w6:fk=6
            .subst w6;(try simp(maxSteps:=2000000) (disch:=omega) only[go_sem,simprocAttr,zD,zE,eOpN,hp,eOu,hoq,ck,z1]);refine⟨k+1, [],wd,?_,?_⟩
             ·(try simp only[]);omega
             .exact zc @Ka.{0}
            (try simp(maxSteps:=2000000) (disch:=omega) only[go_sem,simprocAttr,zD,zE,eOpN,hp,eOu,hoq,ck,z1]);refine zY r1 ?_;refine zY r2 ?_;refine⟨k+1, [],wd,?_,?_⟩
            ·(try simp only[]);omega
            .exact zc @Ka.{0}
          .obtain rfl:k=out.length:=wa
           (try simp(maxSteps:=2000000) (disch:=omega) only[go_sem,simprocAttr,zD,zE]);refine⟨(i+1,y), [],⟨hl1,hl2,ok⟩,wc,?_⟩;exact zc hyh
        .have hd:=sE he;simp only[errT,Td.mk.injEq] at hd;have hfr: ∀o∈out,o.f.kind≠0/\FOk o:=λo ho=>by rw[hd.2.1] at ho;cases ho
         have hol:out.length<=1010:=by rw[hd.2.1];simp
         have eb:(e==0)=false:=beq_eq_false_iff_ne.2 he;refine zS eb ?_;refine zM [2,3,7,8,9,10,12,13,14,21] ?_;refine qac 200 200 (λk:Nat=>k<=out.length)
          (λk=>⟨278, [(2,lOps L),(3, .ptr 0 0 0 0),(7, .ptr 1 0 0 0),(8, .ptr 2 0 0 0),(9, .ptr 3 0 0 0),(10,sci .i64 i),(12, .ptr 5 0 0 0),(13,sci .i64 e),(14,lOus out),(21,sci .i64 k)], [],6, [(5, .arr 28 0 [cNo y]),(3, .arr 5 0 [[sci .i64 x.h.node,sci .i64 x.h.state,sci .i64 x.h.steps,lMs x.h.inn,lLs x.h.out]]),(2, .arr 28 0 [cNo x]),(1, .arr 4 0 [[sci .i64 N, .p (.imm 2 (pr eII ls)), .p (.imm 2 (pr eNd T)),scb ff]]),(0, .arr 4 0 [[sci .i64 N, .p (.imm 2 (pr eII ls)), .p (.imm 2 (pr eNd T)),scb ff]])]⟩) (λk=>out.length - k) (0) [] ?_ ?_ ?_
         .simp
         .exact zc (zQ @Kg (zQ @Kc.{0} @Ka.{0}))
         .rintro k hk;(try simp(maxSteps:=2000000) only[go_sem,simprocAttr]);by_cases lk:k < out.length
          .have hf1:=hfr _ (Kd lk);generalize hoq:out[k]=o at *;obtain⟨ol,fk,fe,⟨fm1,fm2⟩,fps,fi,fn,fc,fpa⟩:=o;obtain⟨z1,z2⟩:=hf1;simp only[FOk] at z1 z2;rcases z2 with rfl | rfl | ⟨z2,z3⟩
           ·(try simp(maxSteps:=2000000) (disch:=omega) only[go_sem,simprocAttr,zD,zE,eOpN,hp,eOu,hoq,ck,z1]);refine⟨k+1, [],wd,?_,?_⟩
            ·(try simp only[]);omega
            .exact zc @Ka.{0}
           ·(try simp(maxSteps:=2000000) (disch:=omega) only[go_sem,simprocAttr,zD,zE,eOpN,hp,eOu,hoq,ck,z1]);refine⟨k+1, [],wd,?_,?_⟩
            ·(try simp only[]);omega
            .exact zc @Ka.{0}
           .subst z3;have z4:=qap z2;have r1:=qcC ⟨fk,fe,(fm1,fm2), [],fi,fn,fc,fpa⟩ wb;have r2:=qbV ⟨fk,fe,(fm1,fm2), [],fi,fn,fc,fpa⟩ wb;rw[z4] at r2;by_cases w5:fk=5
            .subst w5;(try simp(maxSteps:=2000000) (disch:=omega) only[go_sem,simprocAttr,zD,zE,eOpN,hp,eOu,hoq,ck,z1]);refine⟨k+1, [],wd,?_,?_⟩
             ·(try simp only[]);omega
             .exact zc @Ka.{0}
            by_cases w6:fk=6
            .subst w6;(try simp(maxSteps:=2000000) (disch:=omega) only[go_sem,simprocAttr,zD,zE,eOpN,hp,eOu,hoq,ck,z1]);refine⟨k+1, [],wd,?_,?_⟩
             ·(try simp only[]);omega
             .exact zc @Ka.{0}
            (try simp(maxSteps:=2000000) (disch:=omega) only[go_sem,simprocAttr,zD,zE,eOpN,hp,eOu,hoq,ck,z1]);refine zY r1 ?_;refine zY r2 ?_;refine⟨k+1, [],wd,?_,?_⟩
            ·(try simp only[]);omega
            .exact zc @Ka.{0}
          .obtain rfl:k=out.length:=wa
           refine zS eb ?_;refine⟨(i+1,x), [],⟨hl1,hl2,i4⟩,wc,?_⟩;constructor<;>exact zU
      | false=>
        clear hSr sF sO sE sB ds;obtain⟨y,out,ps,path,e⟩:=dh;simp only at hF aF hO hE hHr hT9 hB;obtain⟨g,e9⟩:=tk;simp only at hT9 aF;refine zS (zQ c0 c1) ?_;(refine zM [2,3,7,8,9,10,11,12] ?_;refine zI [U,U,U,U,U,U,U,U,V [],U,U,U,U,U,V [11,12,13],U,U] ?_);(try simp(maxSteps:=2000000) (disch:=omega) only[go_sem,simprocAttr,zD,zE,eOpN,hp]);(refine zF ?_;refine qaa (hHr) zB ?_;(try simp(maxSteps:=2000000) only[go_sem,simprocAttr]));by_cases he:e=0
        .subst he;have ok:=hO rfl;have hol:=hB rfl;by_cases k0:q1=0
         .obtain⟨rfl,hyh,hout⟩:=aF k0 rfl;have hfr: ∀o∈out,o.f.kind≠0/\FOk o:=λo ho=>by rw[hout] at ho;cases ho
          have hol:out.length=0:=by rw[hout];rfl
          clear hout;subst k0;(try simp(maxSteps:=2000000) (disch:=omega) only[go_sem,simprocAttr,zD,zE]);(refine zM [2,3,7,8,9,10,11,12,13,14] ?_;refine zI [U,U,U,U,U,U,U,U,U,V [13],U,U,U,V [0,1,2,3,4,5,6,7,8,9,10,11,12],V [12],U] ?_);(try simp(maxSteps:=2000000) (disch:=omega) only[go_sem,simprocAttr,zD,zE,eOpN,hp]);refine zX hT9 ?_;refine zM [2,3,7,8,9,10,12,13,14,21] ?_;refine qac 200 200 (λk:Nat=>k<=out.length)
           (λk=>⟨278, [(2,lOps L),(3, .ptr 0 0 0 0),(7, .ptr 1 0 0 0),(8, .ptr 2 0 0 0),(9, .ptr 3 0 0 0),(10,sci .i64 i),(12, .ptr 5 0 0 0),(13,sci .i64 0),(14,lOus out),(21,sci .i64 k)], [],6, [(5, .arr 28 0 [cNo y]),(3, .arr 5 0 [[sci .i64 g.node,sci .i64 g.state,sci .i64 g.steps,lMs g.inn,lLs g.out]]),(2, .arr 28 0 [cNo x]),(1, .arr 4 0 [[sci .i64 N, .p (.imm 2 (pr eII ls)), .p (.imm 2 (pr eNd T)),scb ff]]),(0, .arr 4 0 [[sci .i64 N, .p (.imm 2 (pr eII ls)), .p (.imm 2 (pr eNd T)),scb ff]])]⟩) (λk=>out.length - k) (0) [] ?_ ?_ ?_
          .simp
          .exact zc (zQ @Kg (zQ @Kc.{0} @Ka.{0}))
          .rintro k hk;(try simp(maxSteps:=2000000) only[go_sem,simprocAttr]);by_cases lk:k < out.length
           .exact absurd lk wa
           .obtain rfl:k=out.length:=wa
            (try simp(maxSteps:=2000000) (disch:=omega) only[go_sem,simprocAttr,zD,zE]);refine⟨(i+1,y), [],⟨hl1,hl2,ok⟩,wc,?_⟩;exact zc hyh
         .obtain⟨hyh,hfr⟩:=hF k0 rfl;refine zS k0 ?_;refine zM [2,3,7,8,9,10,12,13,14,21] ?_;refine qac 200 200 (λk:Nat=>k<=out.length)
           (λk=>⟨278, [(2,lOps L),(3, .ptr 0 0 0 0),(7, .ptr 1 0 0 0),(8, .ptr 2 0 0 0),(9, .ptr 3 0 0 0),(10,sci .i64 i),(12, .ptr 5 0 0 0),(13,sci .i64 0),(14,lOus out),(21,sci .i64 k)], [],6, [(5, .arr 28 0 [cNo y]),(3, .arr 5 0 [[sci .i64 x.h.node,sci .i64 x.h.state,sci .i64 x.h.steps,lMs x.h.inn,lLs x.h.out]]),(2, .arr 28 0 [cNo x]),(1, .arr 4 0 [[sci .i64 N, .p (.imm 2 (pr eII ls)), .p (.imm 2 (pr eNd T)),scb ff]]),(0, .arr 4 0 [[sci .i64 N, .p (.imm 2 (pr eII ls)), .p (.imm 2 (pr eNd T)),scb ff]])]⟩) (λk=>out.length - k) (0) [] ?_ ?_ ?_
          .simp
          .exact zc (zQ @Kg (zQ @Kc.{0} @Ka.{0}))
          .rintro k hk;(try simp(maxSteps:=2000000) only[go_sem,simprocAttr]);by_cases lk:k < out.length
           .have hf1:=hfr _ (Kd lk);generalize hoq:out[k]=o at *;obtain⟨ol,fk,fe,⟨fm1,fm2⟩,fps,fi,fn,fc,fpa⟩:=o;obtain⟨z1,z2⟩:=hf1;simp only[FOk] at z1 z2;rcases z2 with rfl | rfl | ⟨z2,z3⟩
            ·(try simp(maxSteps:=2000000) (disch:=omega) only[go_sem,simprocAttr,zD,zE,eOpN,hp,eOu,hoq,ck,z1]);refine⟨k+1, [],wd,?_,?_⟩
             ·(try simp only[]);omega
             .exact zc @Ka.{0}
            ·(try simp(maxSteps:=2000000) (disch:=omega) only[go_sem,simprocAttr,zD,zE,eOpN,hp,eOu,hoq,ck,z1]);refine⟨k+1, [],wd,?_,?_⟩
             ·(try simp only[]);omega
             .exact zc @Ka.{0}
            .subst z3;have z4:=qap z2;have r1:=qcC ⟨fk,fe,(fm1,fm2), [],fi,fn,fc,fpa⟩ wb;have r2:=qbV ⟨fk,fe,(fm1,fm2), [],fi,fn,fc,fpa⟩ wb;rw[z4] at r2;by_cases w5:fk=5
             .subst w5;(try simp(maxSteps:=2000000) (disch:=omega) only[go_sem,simprocAttr,zD,zE,eOpN,hp,eOu,hoq,ck,z1]);refine⟨k+1, [],wd,?_,?_⟩
              ·(try simp only[]);omega
              .exact zc @Ka.{0}
             by_cases w6:fk=6
             .subst w6;(try simp(maxSteps:=2000000) (disch:=omega) only[go_sem,simprocAttr,zD,zE,eOpN,hp,eOu,hoq,ck,z1]);refine⟨k+1, [],wd,?_,?_⟩
              ·(try simp only[]);omega
              .exact zc @Ka.{0}
             (try simp(maxSteps:=2000000) (disch:=omega) only[go_sem,simprocAttr,zD,zE,eOpN,hp,eOu,hoq,ck,z1]);refine zY r1 ?_;refine zY r2 ?_;refine⟨k+1, [],wd,?_,?_⟩
             ·(try simp only[]);omega
             .exact zc @Ka.{0}
           .obtain rfl:k=out.length:=wa
            (try simp(maxSteps:=2000000) (disch:=omega) only[go_sem,simprocAttr,zD,zE]);refine⟨(i+1,y), [],⟨hl1,hl2,ok⟩,wc,?_⟩;exact zc hyh
        .have hd:=hE he;simp only[errT,Td.mk.injEq] at hd;have hfr: ∀o∈out,o.f.kind≠0/\FOk o:=λo ho=>by rw[hd.2.1] at ho;cases ho
         have hol:out.length<=1010:=by rw[hd.2.1];simp
         have eb:(e==0)=false:=beq_eq_false_iff_ne.2 he;refine zS eb ?_;refine zM [2,3,7,8,9,10,12,13,14,21] ?_;refine qac 200 200 (λk:Nat=>k<=out.length)
          (λk=>⟨278, [(2,lOps L),(3, .ptr 0 0 0 0),(7, .ptr 1 0 0 0),(8, .ptr 2 0 0 0),(9, .ptr 3 0 0 0),(10,sci .i64 i),(12, .ptr 5 0 0 0),(13,sci .i64 e),(14,lOus out),(21,sci .i64 k)], [],6, [(5, .arr 28 0 [cNo y]),(3, .arr 5 0 [[sci .i64 x.h.node,sci .i64 x.h.state,sci .i64 x.h.steps,lMs x.h.inn,lLs x.h.out]]),(2, .arr 28 0 [cNo x]),(1, .arr 4 0 [[sci .i64 N, .p (.imm 2 (pr eII ls)), .p (.imm 2 (pr eNd T)),scb ff]]),(0, .arr 4 0 [[sci .i64 N, .p (.imm 2 (pr eII ls)), .p (.imm 2 (pr eNd T)),scb ff]])]⟩) (λk=>out.length - k) (0) [] ?_ ?_ ?_
         .simp
         .exact zc (zQ @Kg (zQ @Kc.{0} @Ka.{0}))
         .rintro k hk;(try simp(maxSteps:=2000000) only[go_sem,simprocAttr]);by_cases lk:k < out.length
          .have hf1:=hfr _ (Kd lk);generalize hoq:out[k]=o at *;obtain⟨ol,fk,fe,⟨fm1,fm2⟩,fps,fi,fn,fc,fpa⟩:=o;obtain⟨z1,z2⟩:=hf1;simp only[FOk] at z1 z2;rcases z2 with rfl | rfl | ⟨z2,z3⟩
           ·(try simp(maxSteps:=2000000) (disch:=omega) only[go_sem,simprocAttr,zD,zE,eOpN,hp,eOu,hoq,ck,z1]);refine⟨k+1, [],wd,?_,?_⟩
            ·(try simp only[]);omega
            .exact zc @Ka.{0}
           ·(try simp(maxSteps:=2000000) (disch:=omega) only[go_sem,simprocAttr,zD,zE,eOpN,hp,eOu,hoq,ck,z1]);refine⟨k+1, [],wd,?_,?_⟩
            ·(try simp only[]);omega
            .exact zc @Ka.{0}
           .subst z3;have z4:=qap z2;have r1:=qcC ⟨fk,fe,(fm1,fm2), [],fi,fn,fc,fpa⟩ wb;have r2:=qbV ⟨fk,fe,(fm1,fm2), [],fi,fn,fc,fpa⟩ wb;rw[z4] at r2;by_cases w5:fk=5
            .subst w5;(try simp(maxSteps:=2000000) (disch:=omega) only[go_sem,simprocAttr,zD,zE,eOpN,hp,eOu,hoq,ck,z1]);refine⟨k+1, [],wd,?_,?_⟩
             ·(try simp only[]);omega
             .exact zc @Ka.{0}
            by_cases w6:fk=6
            .subst w6;(try simp(maxSteps:=2000000) (disch:=omega) only[go_sem,simprocAttr,zD,zE,eOpN,hp,eOu,hoq,ck,z1]);refine⟨k+1, [],wd,?_,?_⟩
             ·(try simp only[]);omega
             .exact zc @Ka.{0}
            (try simp(maxSteps:=2000000) (disch:=omega) only[go_sem,simprocAttr,zD,zE,eOpN,hp,eOu,hoq,ck,z1]);refine zY r1 ?_;refine zY r2 ?_;refine⟨k+1, [],wd,?_,?_⟩
            ·(try simp only[]);omega
            .exact zc @Ka.{0}
          .obtain rfl:k=out.length:=wa
           refine zS eb ?_;refine⟨(i+1,x), [],⟨hl1,hl2,i4⟩,wc,?_⟩;constructor<;>exact zU
   .rcases Nat.lt_or_ge i L.length with hl | hl;all_goals
     (try simp(maxSteps:=2000000) (disch:=omega) only[go_sem,simprocAttr,zD,zE]);refine zN [8,9] [U,U,V [3],U,V [],U,V [],U,U] ?_;refine zX hRx ?_;refine zX hSx ?_;(refine zF ?_;refine qaa (qge) zB ?_);exact zU
 .have eH:=qah hH;refine zS eH ?_;(refine zG ?_;refine qaa (qge) zB ?_);exact zU
end Go.Proofs.NO
