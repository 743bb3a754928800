/- The document's node: what comes to it, of any kind. -/
import Derived.Test.YtfhhdgkhajkapaaGreatNRg
set_option linter.all false
open True renaming intro->Ka
open Option renaming none->U
namespace Go.Proofs.NO
open Go Go.Idl Go.Proofs Go.GP Go.Proofs.Tryz
set_option maxHeartbeats 0
set_option maxRecDepth 100000
def qmj(N:Int)(ls:List (Int × Int))(T:List Nd)(ff:Bool)(x:No)(link:Int)(f:Fm)(t:Int)(h:NOk N ls T t x)(ht:0<=t)(hb:t+1<=1000)(hup:UpOk x)(hl:ls.length<=1000000)(hT:qcX T)
  (hw:(stOf T x.h).waits.length<=1000) (hg: ∀p∈f.ps,gPc p):
  Pure prog 131 [lAp N ls T ff,lNo x,sci .i64 link,lFm f] (lTq (hearN ls ff (stOf T x.h) x link f)):=by
 have hI:=qbu N x.h.node ls hl;have hP:=qbB (ins x.h.node 0 ls) link;have hRt:=qbO f hg;have hBk:=qcn N ls link hl;by_cases c1:indexL link 0 (ins x.h.node 0 ls) < 0
 .rw[qmR (.inl c1)];clear h hup;generalize indexL link 0 (ins x.h.node 0 ls)=at_ at *;obtain⟨⟨h1,h2,h3,h4,h5'⟩,⟨m1,m2,⟨m3,m4,m5,m6,m7,m8⟩⟩,⟨u1,⟨u2,u3,u4,u5,u6,u7⟩⟩,⟨t1,t2,t3,t4⟩,got,heard,told,seen⟩:=x;obtain⟨f1,f2,⟨f3,f4⟩,f5,f6,f7,f8,f9⟩:=f;simp only at *;refine pcall0 200 (fn:=f131) func131 rfl wL zB zB λhs=>?_;(try simp only[go_sem,simprocAttr]);(refine zG ?_;refine qaa (hI) zB ?_);refine zV ?_;(refine zG ?_;refine qaa (hP) zB ?_);(try simp(maxSteps:=2000000) (disch:=omega) only[go_sem,simprocAttr,zD,zE,errT,zNo,zHs,zMk,zHu,zTr,zPc])
 by_cases c2:FrP f
 rotate_left
 .rw[qmR (.inr c2)];rw[qah c2] at hRt;clear h hup;generalize indexL link 0 (ins x.h.node 0 ls)=at_ at *;obtain⟨⟨h1,h2,h3,h4,h5'⟩,⟨m1,m2,⟨m3,m4,m5,m6,m7,m8⟩⟩,⟨u1,⟨u2,u3,u4,u5,u6,u7⟩⟩,⟨t1,t2,t3,t4⟩,got,heard,told,seen⟩:=x;obtain⟨f1,f2,⟨f3,f4⟩,f5,f6,f7,f8,f9⟩:=f;simp only at *;refine pcall0 200 (fn:=f131) func131 rfl wL zB zB λhs=>?_;(try simp only[go_sem,simprocAttr]);(refine zG ?_;refine qaa (hI) zB ?_);refine zV ?_;refine zY hP ?_;(refine zG ?_;refine qaa (hRt) zB ?_);(try simp(maxSteps:=2000000) (disch:=omega) only[go_sem,simprocAttr,zD,zE,errT,zNo,zHs,zMk,zHu,zTr,zPc])
 rw[qaj c2] at hRt;have z:hearN ls ff (stOf T x.h) x link f=if f.kind=0 then appN ls ff (stOf T x.h) x link f else if f.kind=1\/f.kind=2 then floodedN ls ff x link f else if f.kind=3\/f.kind=4 then repliedN ls ff x link f else if f.kind=5 then reportedN ls ff x link f else probedN ls (stOf T x.h) x link f:=by
  unfold hearN;rw[if_neg (by rintro(q | q);exact c1 q;exact q c2)]
 rw[z];clear z;have hlk:0<=link:=by
  obtain⟨k,hk,rfl, -⟩:=qfp (qcO.1 (show 0<=indexL link 0 (ins x.h.node 0 ls) by omega));omega
 by_cases k0:f.kind=0
 .rw[if_pos k0];have hA:=qoI N ls T ff x link f t h ht wa hl hT;generalize appN ls ff (stOf T x.h) x link f=d at *;clear h hup;generalize indexL link 0 (ins x.h.node 0 ls)=at_ at *;obtain⟨⟨h1,h2,h3,h4,h5'⟩,⟨m1,m2,⟨m3,m4,m5,m6,m7,m8⟩⟩,⟨u1,⟨u2,u3,u4,u5,u6,u7⟩⟩,⟨t1,t2,t3,t4⟩,got,heard,told,seen⟩:=x;obtain⟨f1,f2,⟨f3,f4⟩,f5,f6,f7,f8,f9⟩:=f;simp only at *;subst k0;refine pcall0 200 (fn:=f131) func131 rfl wL zB zB λhs=>?_;(try simp only[go_sem,simprocAttr]);(refine zG ?_;refine qaa (hI) zB ?_);refine zV ?_;refine zY hP ?_;refine zY hRt ?_;(refine zG ?_;refine qaa (hA) zB ?_);((try simp(maxSteps:=2000000) (disch:=omega) only[go_sem,simprocAttr,zD,zE]);(try with_reducible exact Ka))
 rw[if_neg k0];by_cases k12:f.kind=1\/f.kind=2
 .rw[if_pos k12];have e0:1<=f.epoch/\f.epoch<=200:=by
   rcases c2 with q | q | q | q
   .omega
   .omega
   .exact q.2.1.2.1
   .omega
  have hA:=qiE N ls T ff x link f t h ht wa hup hl k12 e0 hlk;generalize floodedN ls ff x link f=d at *;clear h hup;generalize indexL link 0 (ins x.h.node 0 ls)=at_ at *;obtain⟨⟨h1,h2,h3,h4,h5'⟩,⟨m1,m2,⟨m3,m4,m5,m6,m7,m8⟩⟩,⟨u1,⟨u2,u3,u4,u5,u6,u7⟩⟩,⟨t1,t2,t3,t4⟩,got,heard,told,seen⟩:=x;obtain⟨f1,f2,⟨f3,f4⟩,f5,f6,f7,f8,f9⟩:=f;simp only at *;rcases k12 with rfl | rfl;all_goals
   refine pcall0 200 (fn:=f131) func131 rfl wL zB zB λhs=>?_;(try simp only[go_sem,simprocAttr]);(refine zG ?_;refine qaa (hI) zB ?_);refine zV ?_;refine zY hP ?_;refine zY hRt ?_;(refine zG ?_;refine qaa (hA) zB ?_);((try simp(maxSteps:=2000000) (disch:=omega) only[go_sem,simprocAttr,zD,zE]);(try with_reducible exact Ka))
 rw[if_neg k12];by_cases k34:f.kind=3\/f.kind=4
 .rw[if_pos k34];have htw:=h.tw;have htk:=h.tk;have hRp:=qkX x.t f.epoch (backL ls link) (f.kind==3) ⟨wa,wa⟩ wa;by_cases c3:(replyT x.t f.epoch (backL ls link) (f.kind==3)).2=0
  rotate_left
  .have z:repliedN ls ff x link f=errT (replyT x.t f.epoch (backL ls link) (f.kind==3)).2:=by unfold repliedN;rw[if_pos c3]
   rw[z];clear z h hup;generalize backL ls link=bk at *;generalize indexL link 0 (ins x.h.node 0 ls)=at_ at *;generalize replyT x.t f.epoch bk (f.kind==3)=r at *;obtain⟨⟨r1,r2,r3,r4⟩,e⟩:=r;obtain⟨⟨h1,h2,h3,h4,h5'⟩,⟨m1,m2,⟨m3,m4,m5,m6,m7,m8⟩⟩,⟨u1,⟨u2,u3,u4,u5,u6,u7⟩⟩,⟨t1,t2,t3,t4⟩,got,heard,told,seen⟩:=x;obtain⟨f1,f2,⟨f3,f4⟩,f5,f6,f7,f8,f9⟩:=f;simp only at *;have eb:(e != 0)=true:=bne_iff_ne.2 c3;rcases k34 with rfl | rfl;all_goals
    refine pcall0 200 (fn:=f131) func131 rfl wL zB zB λhs=>?_;(try simp only[go_sem,simprocAttr]);(refine zG ?_;refine qaa (hI) zB ?_);refine zV ?_;refine zY hP ?_;refine zY hRt ?_;refine zN [2,4,5,7,8,254] [U,U,U,U,U,U,U,some [0,1,2,3,8,9,10,15],U,U,U,some [15],U,U,U,some [0,1,2,3,4,5,6,7,8,9,10,11,12,13,14],some [14],U] ?_;refine zX hBk ?_;(refine zF ?_;refine qaa (hRp) zB ?_);(try simp(maxSteps:=2000000) (disch:=omega) only[go_sem,simprocAttr,zD,zE,eb,errT,zNo,zHs,zMk,zHu,zTr,zPc])
  have q: ¬(x.t.epoch≠f.epoch\/x.t.wait < 1):=λq=>absurd c3 wM
  have q1: ¬x.t.wait < 1:=λz=>q (.inr z)
  have hte:=h.te;have htd:=h.td;have h1:=h.mono (u:=t+1) wa;have hr:(replyT x.t f.epoch (backL ls link) (f.kind==3)).1=⟨x.t.epoch,x.t.up,x.t.wait - 1,if(f.kind==3)=true then x.t.kids++ [backL ls link] else x.t.kids⟩:=by unfold replyT;rw[if_neg q]
  have hx:NOk N ls T (t+1) ⟨x.h,x.m,x.u,(replyT x.t f.epoch (backL ls link) (f.kind==3)).1,x.got,x.heard,x.told,x.seen⟩:=by
   refine h1.tree ?_ ?_ ?_ ?_
   .rw[hr];simp only;omega
   .rw[hr];exact hte
   .rw[hr];simp only;split
    .simp only[List.length_append,List.length_singleton];omega
    .omega
   .rw[hr];exact htd.2
  have hu2:UpOk ⟨x.h,x.m,x.u,(replyT x.t f.epoch (backL ls link) (f.kind==3)).1,x.got,x.heard,x.told,x.seen⟩:=by
   intro z;simp only[hr] at z ⊢;exact hup z
  have z:repliedN ls ff x link f=qak ls ff ⟨⟨x.h,x.m,x.u,(replyT x.t f.epoch (backL ls link) (f.kind==3)).1,x.got,x.heard,x.told,x.seen⟩, [], [], [],0⟩:=by unfold repliedN;rw[if_neg (λq=>q c3)]
  have hTe:=qkA N ls T ff _ (t+1) hx hb hu2 hl;rw[<-z] at hTe;rw[c3] at hRp;generalize repliedN ls ff x link f=d at *;clear z h h1 hx hup hu2 hr q;generalize backL ls link=bk at *;generalize indexL link 0 (ins x.h.node 0 ls)=at_ at *;generalize (replyT x.t f.epoch bk (f.kind==3)).1=r at *;obtain⟨r1,r2,r3,r4⟩:=r;obtain⟨⟨h1,h2,h3,h4,h5'⟩,⟨m1,m2,⟨m3,m4,m5,m6,m7,m8⟩⟩,⟨u1,⟨u2,u3,u4,u5,u6,u7⟩⟩,⟨t1,t2,t3,t4⟩,got,heard,told,seen⟩:=x;obtain⟨f1,f2,⟨f3,f4⟩,f5,f6,f7,f8,f9⟩:=f;simp only at *;rcases k34 with rfl | rfl;all_goals
   refine pcall0 200 (fn:=f131) func131 rfl wL zB zB λhs=>?_;(try simp only[go_sem,simprocAttr]);(refine zG ?_;refine qaa (hI) zB ?_);refine zV ?_;refine zY hP ?_;refine zY hRt ?_;refine zN [2,4,5,7,8,254] [U,U,U,U,U,U,U,some [0,1,2,3,8,9,10,15],U,U,U,some [15],U,U,U,some [0,1,2,3,4,5,6,7,8,9,10,11,12,13,14],some [14],U] ?_;refine zX hBk ?_;refine zX hRp ?_;(refine qfG 200 ?_;refine zW ?_;refine qaa (hTe) zB ?_);((try simp(maxSteps:=2000000) (disch:=omega) only[go_sem,simprocAttr,zD,zE]);(try with_reducible exact Ka))
 rw[if_neg k34];by_cases k5:f.kind=5
 .rw[if_pos k5];have hq:(∀p∈f.ps,qaD p)/\f.ps.length<=6:=by
   rcases c2 with q | q | q | q
   .omega
   .omega
   .omega
   .exact⟨q.2.2.2,q.2.2.1.2⟩
  have hA:=qid N ls T ff x link f t h ht hb hup hl hq.1 hq.2;generalize reportedN ls ff x link f=d at *;clear h hup;generalize indexL link 0 (ins x.h.node 0 ls)=at_ at *;obtain⟨⟨h1,h2,h3,h4,h5'⟩,⟨m1,m2,⟨m3,m4,m5,m6,m7,m8⟩⟩,⟨u1,⟨u2,u3,u4,u5,u6,u7⟩⟩,⟨t1,t2,t3,t4⟩,got,heard,told,seen⟩:=x;obtain⟨f1,f2,⟨f3,f4⟩,f5,f6,f7,f8,f9⟩:=f;simp only at *;subst k5;refine pcall0 200 (fn:=f131) func131 rfl wL zB zB λhs=>?_;(try simp only[go_sem,simprocAttr]);(refine zG ?_;refine qaa (hI) zB ?_);refine zV ?_;refine zY hP ?_;refine zY hRt ?_;(refine zG ?_;refine qaa (hA) zB ?_);((try simp(maxSteps:=2000000) (disch:=omega) only[go_sem,simprocAttr,zD,zE]);(try with_reducible exact Ka))
 rw[if_neg k5];have hF:f.kind=6/\qbk f:=by
  rcases c2 with q | q | q | q
  .exact q
  .omega
  .omega
  .omega
 obtain⟨n,j,nd,g⟩:=h.hf;have hsn:=h.sn;have hA:=qmi N ls T ff x.h n j nd (stOf T x.h) g.hn g.hj g.hx g.hq hl hw g.inl g.outl x.seen wa link f hF.2.2.2.2.1 (by have:=hF.2.2.2.2.2.2.2.1;omega);unfold probedN;generalize hearP ls (stOf T x.h) x.h x.seen link f=r at *;obtain⟨r1,r2,r3⟩:=r;have k6:=hF.1;clear h hup g hF c2;generalize indexL link 0 (ins x.h.node 0 ls)=at_ at *;obtain⟨⟨h1,h2,h3,h4,h5'⟩,⟨m1,m2,⟨m3,m4,m5,m6,m7,m8⟩⟩,⟨u1,⟨u2,u3,u4,u5,u6,u7⟩⟩,⟨t1,t2,t3,t4⟩,got,heard,told,seen⟩:=x;obtain⟨f1,f2,⟨f3,f4⟩,f5,f6,f7,f8,f9⟩:=f;simp only at *;subst k6;refine pcall0 200 (fn:=f131) func131 rfl wL zB zB λhs=>?_;(try simp only[go_sem,simprocAttr]);(refine zG ?_;refine qaa (hI) zB ?_);refine zV ?_;refine zY hP ?_;refine zY hRt ?_;(refine zG ?_;refine qaa (hA) zB ?_);((try simp(maxSteps:=2000000) (disch:=omega) only[go_sem,simprocAttr,zD,zE]);(try with_reducible exact Ka))
end Go.Proofs.NO
