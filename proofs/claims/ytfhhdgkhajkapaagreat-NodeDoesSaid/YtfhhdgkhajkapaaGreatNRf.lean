/- The document's node: it begins, and what comes to it. -/
import Derived.Test.YtfhhdgkhajkapaaGreatNRe
import Derived.Test.YtfhhdgkhajkapaaGreatNWr
import Derived.Test.YtfhhdgkhajkapaaGreatNxDg
set_option linter.all false
open List renaming take_of_length_le->Ka,length_map->Kb,replicate->Kc,map_cons->Kd,map_nil->Ke
open Bool renaming false_eq_true->Kf
open Option renaming none->U,some->V
namespace Go.Proofs.NO
open Go Go.Idl Go.Proofs Go.GP Go.Proofs.Tryz
set_option maxHeartbeats 0
set_option maxRecDepth 100000
def qhS(N:Int)(ls:List (Int × Int))(T:List Nd)(ff:Bool)(n:Int)(m:Nat)(x:Nd)(hl:ls.length<=1000000)(hm:(m:Int)=if n < 0\/N<=n then 0 else n)(hx:T[m]? =V x):
  Pure prog 51 [lAp N ls T ff,sci .i64 n] (lNo (newN ⟨m,x.start,0,Kc (ins m 0 ls).length [],Kc (outs m 0 ls).length []⟩)):=by
 have h:=qiF N ls T ff 0 [] n m x hl hm hx;generalize Kc (ins m 0 ls).length []=A at *;generalize Kc (outs m 0 ls).length []=B at *;refine pcall0 200 (fn:=f51) func51 rfl (by simp[ntmps51]) zB zB λhs=>?_;refine zV ?_;(refine zG ?_;refine qaa (h) zB ?_);(try simp(disch:=omega) only[go_sem,simprocAttr,zD,zE,newN,zMk,zHu,zTr,zPc])
def qkZ(N:Int)(ls:List (Int × Int))(T:List Nd)(ff:Bool)(x:No)(e:Int)(t:Int)(h:NOk N ls T t x)(ht:0<=t)(hb:t<=1000)(hup:UpOk x)(hl:ls.length<=1000000):
  Pure prog 130 [lAp N ls T ff,lNo x,sci .i64 e] (lTq (startN ls ff x e)):=by
 have hO:=qbj N x.h.node ls hl;have h5:=h.outs5;obtain⟨gh,i5⟩:=h.gH;have hBg:=qgm x.h e gh;have hTu:=qeq x.u x.h e gh;by_cases c:e < 1\/200 < e\/e<=x.m.epoch\/e<=x.u.epoch\/e<=x.t.epoch
 .have z:startN ls ff x e=errT 1:=by unfold startN;rw[if_pos c]
  rw[z];clear z hup h hBg hTu;obtain⟨⟨h1,h2,h3,h4,h5⟩,⟨m1,m2,⟨m3,m4,m5,m6,m7,m8⟩⟩,⟨u1,⟨u2,u3,u4,u5,u6,u7⟩⟩,⟨t1,t2,t3,t4⟩,got,heard,told,seen⟩:=x;simp only at c;refine pcall0 200 (fn:=f130) func130 rfl (by simp[ntmps130]) zB zB λhs=>?_;(try simp only[go_sem,simprocAttr]);by_cases c1:e < 1
  ·(try simp(maxSteps:=2000000) (disch:=omega) only[go_sem,simprocAttr,zD,zE,errT,zNo,zHs,zMk,zHu,zTr,zPc])
  by_cases c2:200 < e
  ·(try simp(maxSteps:=2000000) (disch:=omega) only[go_sem,simprocAttr,zD,zE,errT,zNo,zHs,zMk,zHu,zTr,zPc])
  by_cases c3:e<=m1
  ·(try simp(maxSteps:=2000000) (disch:=omega) only[go_sem,simprocAttr,zD,zE,errT,zNo,zHs,zMk,zHu,zTr,zPc])
  by_cases c4:e<=u1
  ·(try simp(maxSteps:=2000000) (disch:=omega) only[go_sem,simprocAttr,zD,zE,errT,zNo,zHs,zMk,zHu,zTr,zPc])
  have c5:e<=t1:=wa
  (try simp(maxSteps:=2000000) (disch:=omega) only[go_sem,simprocAttr,zD,zE,errT,zNo,zHs,zMk,zHu,zTr,zPc])
 have e0:1<=e/\e<=200/\x.t.epoch < e:=wa
 have htd:=h.td;have hPl:=qkW e ((outs x.h.node 0 ls).length:Int);have hx:NOk N ls T t ⟨x.h,if ff then beginM x.h e else x.m,if ff then x.u else(turnU x.u x.h e).1,x.t,x.got,x.heard,x.told,x.seen⟩:=by
  cases ff
  .exact h.turn e0.2.1 ht
  .exact h.begin_ ⟨e0.1,e0.2.1⟩ ht
 have hf:NOk N ls T t ⟨x.h,if ff then beginM x.h e else x.m,if ff then x.u else(turnU x.u x.h e).1,plantT e (outs x.h.node 0 ls).length, [],0,x.told,x.seen⟩:=by
  refine NOk.flood (d:=⟨⟨x.h,if ff then beginM x.h e else x.m,if ff then x.u else(turnU x.u x.h e).1,plantT e (outs x.h.node 0 ls).length,x.got,x.heard,x.told,x.seen⟩, [], [], [],0⟩) (hx.tree ?_ ?_ ?_ ?_) ff e
  .unfold plantT;simp only;split<;>omega
  .unfold plantT;simp only;omega
  .unfold plantT;simp;omega
  .unfold plantT;simp only;omega
 have z:startN ls ff x e=qak ls ff ⟨⟨x.h,if ff then beginM x.h e else x.m,if ff then x.u else(turnU x.u x.h e).1,plantT e (outs x.h.node 0 ls).length, [],0,x.told,x.seen⟩,(outs x.h.node 0 ls).map (λl=>(⟨l,ctl (kindN ff) e⟩:Ou)), [], [],0⟩:=by
  unfold startN;rw[if_neg c];rfl
 have hFl:=qq3 N ls T ff ⟨x.h,if ff then beginM x.h e else x.m,if ff then x.u else(turnU x.u x.h e).1,plantT e (outs x.h.node 0 ls).length,x.got,x.heard,x.told,x.seen⟩ hl we e;have hTe:=qhk N ls T ff _ t hf hb (λq=>rfl) hl (outs x.h.node 0 ls).length (outs x.h.node 0 ls).length ((outs x.h.node 0 ls).map (λl=>(⟨l,ctl (kindN ff) e⟩:Ou))) [] [] wc wa;rw[<-z] at hTe;have hse:=start_err (ls:=ls) (ff:=ff) (x:=x) (e:=e);generalize startN ls ff x e=d at *;clear z hf hx hup h;generalize plantT e (outs x.h.node 0 ls).length=pl at *;obtain⟨p1,p2,p3,p4⟩:=pl;obtain⟨y,out,ps,path,er⟩:=d;have c1: ¬e < 1:=wa
 have c2: ¬200 < e:=wa
 have c3: ¬e<=x.m.epoch:=wa
 have c4: ¬e<=x.u.epoch:=wa
 have c5: ¬e<=x.t.epoch:=wa
 cases ff
 .simp only[Kf,if_false] at hFl hTe;generalize turnU x.u x.h e=tu at *;obtain⟨⟨v1,⟨v2,v3,v4,v5,v6,v7⟩⟩,vb⟩:=tu;obtain⟨⟨h1,h2,h3,h4,h5'⟩,⟨m1,m2,⟨m3,m4,m5,m6,m7,m8⟩⟩,⟨u1,⟨u2,u3,u4,u5,u6,u7⟩⟩,⟨t1,t2,t3,t4⟩,got,heard,told,seen⟩:=x;simp only at *;refine pcall0 200 (fn:=f130) func130 rfl (by simp[ntmps130]) zB zB λhs=>?_;refine zP ?_;refine zY hTu ?_;refine zY hO ?_;refine zY hPl ?_;refine zN [2,3,4,6,254] [U,U,U,U,U,V [0],V [],V []] ?_;(refine qrp ?_;refine zW ?_;refine callG_of [] (hFl) zU ?_);refine zP ?_;by_cases he:er=0
  .subst he;simp only[tRes,tBk,if_true] at hTe;have hti:(ir eOu out).take out.length=ir eOu out:=Ka wu;(refine qbd ?_;refine zW ?_;refine callG_of [4] (hTe) zU ?_);(try simp(maxSteps:=2000000) (disch:=omega) only[go_sem,simprocAttr,zD,zE,hti,Kb])
  .have hd:=hse he;simp only[errT,Td.mk.injEq] at hd;obtain⟨rfl,rfl,rfl,rfl, -⟩:=hd;simp only[tRes,tBk,if_neg he] at hTe;(refine qbd ?_;refine zW ?_;refine callG_of [4] (hTe) zU ?_);(try simp(maxSteps:=2000000) (disch:=omega) only[go_sem,simprocAttr,zD,zE,errT,zNo,zHs,zMk,zHu,zTr,zPc])
 .simp only[if_true] at hFl hTe;generalize beginM x.h e=bm at *;obtain⟨v1,v8,⟨v2,v3,v4,v5,v6,v7⟩⟩:=bm;obtain⟨⟨h1,h2,h3,h4,h5'⟩,⟨m1,m2,⟨m3,m4,m5,m6,m7,m8⟩⟩,⟨u1,⟨u2,u3,u4,u5,u6,u7⟩⟩,⟨t1,t2,t3,t4⟩,got,heard,told,seen⟩:=x;simp only at *;refine pcall0 200 (fn:=f130) func130 rfl (by simp[ntmps130]) zB zB λhs=>?_;refine zP ?_;refine zY hBg ?_;refine zY hO ?_;refine zY hPl ?_;refine zN [2,3,4,6,254] [U,U,U,U,U,V [0],V [],V []] ?_;(refine qrp ?_;refine zW ?_;refine callG_of [] (hFl) zU ?_);refine zP ?_;by_cases he:er=0
  .subst he;simp only[tRes,tBk,if_true] at hTe;have hti:(ir eOu out).take out.length=ir eOu out:=Ka wu;(refine qbd ?_;refine zW ?_;refine callG_of [3] (hTe) zU ?_);(try simp(maxSteps:=2000000) (disch:=omega) only[go_sem,simprocAttr,zD,zE,hti,Kb])
  .have hd:=hse he;simp only[errT,Td.mk.injEq] at hd;obtain⟨rfl,rfl,rfl,rfl, -⟩:=hd;simp only[tRes,tBk,if_neg he] at hTe;(refine qbd ?_;refine zW ?_;refine callG_of [3] (hTe) zU ?_);(try simp(maxSteps:=2000000) (disch:=omega) only[go_sem,simprocAttr,zD,zE,errT,zNo,zHs,zMk,zHu,zTr,zPc])
def qiE(N:Int)(ls:List (Int × Int))(T:List Nd)(ff:Bool)(x:No)(link:Int)(f:Fm)(t:Int)(h:NOk N ls T t x)(ht:0<=t)(hb:t<=1000)(hup:UpOk x)(hl:ls.length<=1000000)
  (hk:f.kind=1\/f.kind=2) (e0:1<=f.epoch/\f.epoch<=200) (hlk:0<=link):
  Pure prog 202 [lAp N ls T ff,lNo x,sci .i64 link,lFm f] (lTq (floodedN ls ff x link f)):=by
 have hO:=qbj N x.h.node ls hl;have hI:=qbu N x.h.node ls hl;have hP:=qbB (ins x.h.node 0 ls) link;have hBk:=qcn N ls link hl;have h5:=h.outs5;obtain⟨gh,i5⟩:=h.gH;have gm:=h.gm.g hb;have hmo:=h.mo;have hml:=h.ml;have htd:=h.td;have hMk:=qjE x.m x.h f.epoch (indexL link 0 (ins x.h.node 0 ls)) gh i5 gm (by have:=gm.inn;omega) (λq=>(hml wa).1);have hTu:=qeq x.u x.h f.epoch gh;have hFd:=qkV x.t f.epoch link ((outs x.h.node 0 ls).length:Int);obtain⟨k,e,⟨fm1,fm2⟩,fps,fi,fn,fc,fpa⟩:=f;simp only at hk e0 hMk hTu hFd;by_cases ck:k=kindN ff
 rotate_left
 .have z:floodedN ls ff x link ⟨k,e,(fm1,fm2),fps,fi,fn,fc,fpa⟩=errT 9:=by unfold floodedN;rw[if_pos ck]
  rw[z];clear z hup h hMk hTu hFd hO hI hP hBk;obtain⟨⟨h1,h2,h3,h4,h5'⟩,⟨m1,m2,⟨m3,m4,m5,m6,m7,m8⟩⟩,⟨u1,⟨u2,u3,u4,u5,u6,u7⟩⟩,⟨t1,t2,t3,t4⟩,got,heard,told,seen⟩:=x;have c:(ff=false/\k=1)\/(ff=true/\k=2):=by
   cases ff
   .rcases hk with q | q
    .exact .inl ⟨rfl,q⟩
    .exact absurd q ck
   .rcases hk with q | q
    .exact absurd q ck
    .exact .inr ⟨rfl,q⟩
  rcases c with ⟨rfl,rfl⟩ | ⟨rfl,rfl⟩;all_goals
   refine pcall0 200 (fn:=f202) func202 rfl ve zB zB λhs=>?_;(try simp(maxSteps:=2000000) (disch:=omega) only[go_sem,simprocAttr,zD,zE,errT,zNo,zHs,zMk,zHu,zTr,zPc])
 by_cases c2:e < x.t.epoch
 .have z:floodedN ls ff x link ⟨k,e,(fm1,fm2),fps,fi,fn,fc,fpa⟩=errT 1:=by unfold floodedN;rw[if_neg (λq=>q ck),if_pos c2]
  rw[z];clear z hup h hMk hTu hFd hO hI hP hBk;obtain⟨⟨h1,h2,h3,h4,h5'⟩,⟨m1,m2,⟨m3,m4,m5,m6,m7,m8⟩⟩,⟨u1,⟨u2,u3,u4,u5,u6,u7⟩⟩,⟨t1,t2,t3,t4⟩,got,heard,told,seen⟩:=x;simp only at c2;subst ck;cases ff;all_goals
   rw[show kindN _=_ from rfl];refine pcall0 200 (fn:=f202) func202 rfl ve zB zB λhs=>?_;(try simp(maxSteps:=2000000) (disch:=omega) only[go_sem,simprocAttr,zD,zE,kindN,errT,zNo,zHs,zMk,zHu,zTr,zPc])
 have hse:(floodedN ls ff x link ⟨k,e,(fm1,fm2),fps,fi,fn,fc,fpa⟩).e≠0->floodedN ls ff x link ⟨k,e,(fm1,fm2),fps,fi,fn,fc,fpa⟩=errT (floodedN ls ff x link ⟨k,e,(fm1,fm2),fps,fi,fn,fc,fpa⟩).e:=by
  unfold floodedN;rw[if_neg (λq=>q ck),if_neg c2];split
  .exact λq=>tell_err rfl q
  .exact λq=>tell_err rfl q
 have hx:NOk N ls T t ⟨x.h,if ff then(markM x.m x.h e (indexL link 0 (ins x.h.node 0 ls))).1 else x.m,if ff then x.u else(turnU x.u x.h e).1,x.t,x.got,x.heard,x.told,x.seen⟩:=by
  cases ff
  .exact h.turn e0.2 ht
  .exact h.mark e0 ht _
 by_cases c3:x.t.epoch=e
 .have z:floodedN ls ff x link ⟨k,e,(fm1,fm2),fps,fi,fn,fc,fpa⟩=qak ls ff ⟨⟨x.h,if ff then(markM x.m x.h e (indexL link 0 (ins x.h.node 0 ls))).1 else x.m,if ff then x.u else(turnU x.u x.h e).1,x.t,x.got,x.heard,x.told,x.seen⟩, [⟨backL ls link,ctl 4 e⟩], [], [],0⟩:=by
   unfold floodedN;rw[if_neg (λq=>q ck),if_neg c2,if_pos c3]
  have hfl:floodT x.t e link (outs x.h.node 0 ls).length=(x.t,false):=by unfold floodT;rw[if_pos c3]
  rw[hfl] at hFd;have hTe:=qhk N ls T ff _ t hx hb hup hl 0 1 [⟨backL ls link,ctl 4 e⟩] [] [] rfl wa;rw[<-z] at hTe;generalize floodedN ls ff x link ⟨k,e,(fm1,fm2),fps,fi,fn,fc,fpa⟩=d at *;clear z hx hup h hml hmo gm hfl;generalize indexL link 0 (ins x.h.node 0 ls)=at_ at *;generalize backL ls link=bk at *;obtain⟨y,out,ps,path,er⟩:=d;subst ck;cases ff
  .simp only[Kf,if_false] at hTe;generalize turnU x.u x.h e=tu at *;obtain⟨⟨v1,⟨v2,v3,v4,v5,v6,v7⟩⟩,vb⟩:=tu;obtain⟨⟨h1,h2,h3,h4,h5'⟩,⟨m1,m2,⟨m3,m4,m5,m6,m7,m8⟩⟩,⟨u1,⟨u2,u3,u4,u5,u6,u7⟩⟩,⟨t1,t2,t3,t4⟩,got,heard,told,seen⟩:=x;simp only at *;rw[show kindN false=2 from rfl];refine pcall0 200 (fn:=f202) func202 rfl ve zB zB λhs=>?_;(try simp(maxSteps:=2000000) (disch:=omega) only[go_sem,simprocAttr,zD,zE]);refine zY hTu ?_;refine zN [2,4,5,7,8,254] [U,U,U,U,U,U,U,U,U,U,V [0,1,2,3,4,16],U,V [16],U,U,U,V [0,1,2,3,4,5,6,7,8,9,10,11,12,13,14,15],V [15],U] ?_;refine zX hO ?_;refine zX hFd ?_;(refine qek 18 ?_;refine zW ?_;refine qaa (hBk) zB ?_;refine zV ?_);refine qgj (n:=0) (zs:= [(0, .agg [sci .i64 bk,sci .i64 4,sci .i64 e,sci .i64 0,sci .i64 0,nil0,sci .i64 0,sci .i64 0,sci .i64 0,nil0])]) (sz:=10) (cs:= [sci .i64 bk,sci .i64 4,sci .i64 e,sci .i64 0,sci .i64 0,nil0,sci .i64 0,sci .i64 0,sci .i64 0,nil0]) ?_ ?_ ?_ rfl ?_
   .rfl
   ·((try refine zW ?_);(try with_reducible exact True.intro))
   ·(try simp(maxSteps:=2000000) only[go_sem,simprocAttr,flit])
   (try simp(maxSteps:=2000000) only[go_sem,simprocAttr,qaM]);rw[qbG];have hone:ir eOu [(⟨bk,⟨4,e,(0,0), [],0,0,0, []⟩⟩:Ou)]= [(eOu ⟨bk,⟨4,e,(0,0), [],0,0,0, []⟩⟩).map IV.p]:=rfl;refine qaF 200 [] ⟨113, [(8, .ptr 3 0 0 0),(103,lAp N ls T false),(104,lNo ⟨⟨h1,h2,h3,h4,h5'⟩,⟨m1,m2,⟨m3,m4,m5,m6,m7,m8⟩⟩,⟨v1,⟨v2,v3,v4,v5,v6,v7⟩⟩,⟨t1,t2,t3,t4⟩,got,heard,told,seen⟩),(110, .ref 6 0 0 1)], [],7, [(6, .arr 10 0 (ir eOu [⟨bk,ctl 4 e⟩])),(3, .arr 32 0 [[sci .i64 0,sci .i64 0,sci .i64 0,nil0,nil0,sci .i64 0,nil0,sci .i64 0,sci .i64 0,sci .i64 0,nil0,nil0,nil0,sci .i64 0,sci .i64 0,sci .i64 0,sci .i64 0,nil0,nil0,nil0,sci .i64 0,sci .i64 0,sci .i64 0,nil0,nil0,sci .i64 0,sci .i64 0,nil0,nil0,nil0,nil0,sci .i64 0]])]⟩ trivial ?_ ?_
   .constructor<;>(try simp(maxSteps:=2000000) (disch:=omega) only[go_sem,simprocAttr,zD,zE,hone,ctl,eOu,Kd,Ke])
   (try simp(maxSteps:=2000000) (disch:=omega) only[go_sem,simprocAttr,zD,zE]);by_cases he:er=0
   .subst he;simp only[tRes,tBk,if_true] at hTe;have hti:(ir eOu out).take out.length=ir eOu out:=Ka wu;(refine at_g 200 ?_;refine zW ?_;refine callG_of [6] (hTe) zU ?_);(try simp(maxSteps:=2000000) (disch:=omega) only[go_sem,simprocAttr,zD,zE,hti,Kb])
   .have hd:=hse he;simp only[errT,Td.mk.injEq] at hd;obtain⟨rfl,rfl,rfl,rfl, -⟩:=hd;simp only[tRes,tBk,if_neg he] at hTe;(refine at_g 200 ?_;refine zW ?_;refine callG_of [6] (hTe) zU ?_);(try simp(maxSteps:=2000000) (disch:=omega) only[go_sem,simprocAttr,zD,zE,errT,zNo,zHs,zMk,zHu,zTr,zPc])
  .simp only[if_true] at hTe;generalize markM x.m x.h e at_=mk at *;obtain⟨⟨v1,v8,⟨v2,v3,v4,v5,v6,v7⟩⟩,vb⟩:=mk;obtain⟨⟨h1,h2,h3,h4,h5'⟩,⟨m1,m2,⟨m3,m4,m5,m6,m7,m8⟩⟩,⟨u1,⟨u2,u3,u4,u5,u6,u7⟩⟩,⟨t1,t2,t3,t4⟩,got,heard,told,seen⟩:=x;simp only at *;rw[show kindN true=1 from rfl];refine pcall0 200 (fn:=f202) func202 rfl ve zB zB λhs=>?_;(try simp(maxSteps:=2000000) (disch:=omega) only[go_sem,simprocAttr,zD,zE]);refine zN [2,4,5,7,8,254] [U,U,U,U,U,U,U,U,U,U,U,V [0,1,2,3,4,5,12,18],U,V [0,1,2,3,4,5,18],V [18],U,U,U,V [0,1,2,3,4,5,6,7,8,9,10,11,12,13,14,15,16,17],V [17],U] ?_;refine zX hI ?_;refine zX hP ?_;refine zX hMk ?_;refine zN [2,4,5,7,8,254] [U,U,U,U,U,U,U,U,U,U,V [0,1,2,3,4,16],U,V [16],U,U,U,V [0,1,2,3,4,5,6,7,8,9,10,11,12,13,14,15],V [15],U] ?_;refine zX hO ?_;refine zX hFd ?_;(refine qek 18 ?_;refine zW ?_;refine qaa (hBk) zB ?_;refine zV ?_);refine qgj (n:=0) (zs:= [(0, .agg [sci .i64 bk,sci .i64 4,sci .i64 e,sci .i64 0,sci .i64 0,nil0,sci .i64 0,sci .i64 0,sci .i64 0,nil0])]) (sz:=10) (cs:= [sci .i64 bk,sci .i64 4,sci .i64 e,sci .i64 0,sci .i64 0,nil0,sci .i64 0,sci .i64 0,sci .i64 0,nil0]) ?_ ?_ ?_ rfl ?_
   .rfl
   ·((try refine zW ?_);(try with_reducible exact True.intro))
   ·(try simp(maxSteps:=2000000) only[go_sem,simprocAttr,flit])
   (try simp(maxSteps:=2000000) only[go_sem,simprocAttr,qaM]);rw[qbG];have hone:ir eOu [(⟨bk,⟨4,e,(0,0), [],0,0,0, []⟩⟩:Ou)]= [(eOu ⟨bk,⟨4,e,(0,0), [],0,0,0, []⟩⟩).map IV.p]:=rfl;refine qaF 200 [] ⟨113, [(8, .ptr 3 0 0 0),(103,lAp N ls T true),(104,lNo ⟨⟨h1,h2,h3,h4,h5'⟩,⟨v1,v8,⟨v2,v3,v4,v5,v6,v7⟩⟩,⟨u1,⟨u2,u3,u4,u5,u6,u7⟩⟩,⟨t1,t2,t3,t4⟩,got,heard,told,seen⟩),(110, .ref 6 0 0 1)], [],7, [(6, .arr 10 0 (ir eOu [⟨bk,ctl 4 e⟩])),(3, .arr 32 0 [[sci .i64 0,sci .i64 0,sci .i64 0,nil0,nil0,sci .i64 0,nil0,sci .i64 0,sci .i64 0,sci .i64 0,nil0,nil0,nil0,sci .i64 0,sci .i64 0,sci .i64 0,sci .i64 0,nil0,nil0,nil0,sci .i64 0,sci .i64 0,sci .i64 0,nil0,nil0,sci .i64 0,sci .i64 0,nil0,nil0,nil0,nil0,sci .i64 0]])]⟩ trivial ?_ ?_
   .constructor<;>(try simp(maxSteps:=2000000) (disch:=omega) only[go_sem,simprocAttr,zD,zE,hone,ctl,eOu,Kd,Ke])
   (try simp(maxSteps:=2000000) (disch:=omega) only[go_sem,simprocAttr,zD,zE]);by_cases he:er=0
   .subst he;simp only[tRes,tBk,if_true] at hTe;have hti:(ir eOu out).take out.length=ir eOu out:=Ka wu;(refine at_g 200 ?_;refine zW ?_;refine callG_of [6] (hTe) zU ?_);(try simp(maxSteps:=2000000) (disch:=omega) only[go_sem,simprocAttr,zD,zE,hti,Kb])
   .have hd:=hse he;simp only[errT,Td.mk.injEq] at hd;obtain⟨rfl,rfl,rfl,rfl, -⟩:=hd;simp only[tRes,tBk,if_neg he] at hTe;(refine at_g 200 ?_;refine zW ?_;refine callG_of [6] (hTe) zU ?_);(try simp(maxSteps:=2000000) (disch:=omega) only[go_sem,simprocAttr,zD,zE,errT,zNo,zHs,zMk,zHu,zTr,zPc])
 .obtain⟨w,hw,w5⟩: ∃w,floodT x.t e link (outs x.h.node 0 ls).length=(⟨e,link,w, []⟩,true)/\0<=w/\w<=5:=
   ⟨if((outs x.h.node 0 ls).length:Int) < 0 then 0 else(outs x.h.node 0 ls).length,by unfold floodT;rw[if_neg c3],vH,vH⟩
  have z:floodedN ls ff x link ⟨k,e,(fm1,fm2),fps,fi,fn,fc,fpa⟩=qak ls ff ⟨⟨x.h,if ff then(markM x.m x.h e (indexL link 0 (ins x.h.node 0 ls))).1 else x.m,if ff then x.u else(turnU x.u x.h e).1,⟨e,link,w, []⟩, [],0,x.told,x.seen⟩, [⟨backL ls link,ctl 3 e⟩]++(outs x.h.node 0 ls).map (λl=>(⟨l,ctl (kindN ff) e⟩:Ou)), [], [],0⟩:=by
   unfold floodedN;rw[if_neg (λq=>q ck),if_neg c2,if_neg c3,hw];rfl
  have hf:NOk N ls T t ⟨x.h,if ff then(markM x.m x.h e (indexL link 0 (ins x.h.node 0 ls))).1 else x.m,if ff then x.u else(turnU x.u x.h e).1,⟨e,link,w, []⟩, [],0,x.told,x.seen⟩:=by
   refine NOk.flood (d:=⟨⟨x.h,if ff then(markM x.m x.h e (indexL link 0 (ins x.h.node 0 ls))).1 else x.m,if ff then x.u else(turnU x.u x.h e).1,⟨e,link,w, []⟩,x.got,x.heard,x.told,x.seen⟩, [], [], [],0⟩) (hx.tree ?_ ?_ ?_ ?_) ff e
   .simp only;omega
   .simp only;omega
   .simp;omega
   .simp only;omega
  rw[hw] at hFd;have hFl:=qq2 N ls T ff ⟨x.h,if ff then(markM x.m x.h e (indexL link 0 (ins x.h.node 0 ls))).1 else x.m,if ff then x.u else(turnU x.u x.h e).1,⟨e,link,w, []⟩,x.got,x.heard,x.told,x.seen⟩ 0 1 [⟨backL ls link,ctl 3 e⟩] [] [] rfl wa hl we 0 e;have hTe:=qhk N ls T ff _ t hf hb (λq=>by simp only at q;omega) hl (outs x.h.node 0 ls).length (1+(outs x.h.node 0 ls).length) ([⟨backL ls link,ctl 3 e⟩]++(outs x.h.node 0 ls).map (λl=>(⟨l,ctl (kindN ff) e⟩:Ou))) [] [] (by simp[Nat.add_comm]) wa;rw[<-z] at hTe;simp only[Nat.zero_add] at hFl;generalize floodedN ls ff x link ⟨k,e,(fm1,fm2),fps,fi,fn,fc,fpa⟩=d at *;clear z hx hf hup h hml hmo gm hw;generalize indexL link 0 (ins x.h.node 0 ls)=at_ at *;generalize backL ls link=bk at *;have hFFl:([(⟨bk,ctl 3 e⟩:Ou)]++(outs x.h.node 0 ls).map (λl=>(⟨l,ctl (kindN ff) e⟩:Ou))).length=1+(outs x.h.node 0 ls).length:=by simp[Nat.add_comm]
  generalize [(⟨bk,ctl 3 e⟩:Ou)]++(outs x.h.node 0 ls).map (λl=>(⟨l,ctl (kindN ff) e⟩:Ou))=FF at *;obtain⟨y,out,ps,path,er⟩:=d;subst ck;cases ff
  .simp only[Kf,if_false] at hTe hFl;generalize turnU x.u x.h e=tu at *;obtain⟨⟨v1,⟨v2,v3,v4,v5,v6,v7⟩⟩,vb⟩:=tu;obtain⟨⟨h1,h2,h3,h4,h5'⟩,⟨m1,m2,⟨m3,m4,m5,m6,m7,m8⟩⟩,⟨u1,⟨u2,u3,u4,u5,u6,u7⟩⟩,⟨t1,t2,t3,t4⟩,got,heard,told,seen⟩:=x;simp only at *;rw[show kindN false=2 from rfl];refine pcall0 200 (fn:=f202) func202 rfl ve zB zB λhs=>?_;(try simp(maxSteps:=2000000) (disch:=omega) only[go_sem,simprocAttr,zD,zE]);refine zY hTu ?_;refine zN [2,4,5,7,8,254] [U,U,U,U,U,U,U,U,U,U,V [0,1,2,3,4,16],U,V [16],U,U,U,V [0,1,2,3,4,5,6,7,8,9,10,11,12,13,14,15],V [15],U] ?_;refine zX hO ?_;refine zX hFd ?_;(refine qek 15 ?_;refine zW ?_;refine qaa (hBk) zB ?_;refine zV ?_);refine qgj (n:=0) (zs:= [(0, .agg [sci .i64 bk,sci .i64 3,sci .i64 e,sci .i64 0,sci .i64 0,nil0,sci .i64 0,sci .i64 0,sci .i64 0,nil0])]) (sz:=10) (cs:= [sci .i64 bk,sci .i64 3,sci .i64 e,sci .i64 0,sci .i64 0,nil0,sci .i64 0,sci .i64 0,sci .i64 0,nil0]) ?_ ?_ ?_ rfl ?_
   .rfl
   ·((try refine zW ?_);(try with_reducible exact True.intro))
   ·(try simp(maxSteps:=2000000) only[go_sem,simprocAttr,flit])
   (try simp(maxSteps:=2000000) only[go_sem,simprocAttr,qaM]);rw[qbG];have hone:ir eOu [(⟨bk,⟨3,e,(0,0), [],0,0,0, []⟩⟩:Ou)]= [(eOu ⟨bk,⟨3,e,(0,0), [],0,0,0, []⟩⟩).map IV.p]:=rfl;refine qaF 200 [] ⟨113, [(4, .ptr 0 0 0 0),(5, .ptr 1 0 0 0),(7, .ptr 2 0 0 0),(8, .ptr 3 0 0 0),(93, .ref 6 0 0 1)], [],7, [(6, .arr 10 0 (ir eOu [⟨bk,ctl 3 e⟩])),(3, .arr 32 0 [[sci .i64 0,sci .i64 0,sci .i64 0,nil0,nil0,sci .i64 0,nil0,sci .i64 0,sci .i64 0,sci .i64 0,nil0,nil0,nil0,sci .i64 0,sci .i64 0,sci .i64 0,sci .i64 0,nil0,nil0,nil0,sci .i64 0,sci .i64 0,sci .i64 0,nil0,nil0,sci .i64 0,sci .i64 0,nil0,nil0,nil0,nil0,sci .i64 0]]),(2, .arr 9 0 [[sci .i64 2,sci .i64 e,sci .i64 fm1,sci .i64 fm2,lPs fps,sci .i64 fi,sci .i64 fn,sci .i64 fc,lI fpa]]),(1, .arr 28 0 [cNo ⟨⟨h1,h2,h3,h4,h5'⟩,⟨m1,m2,⟨m3,m4,m5,m6,m7,m8⟩⟩,⟨v1,⟨v2,v3,v4,v5,v6,v7⟩⟩,⟨e,link,w, []⟩,got,heard,told,seen⟩]),(0, .arr 4 0 [[sci .i64 N, .p (.imm 2 (pr eII ls)), .p (.imm 2 (pr eNd T)),scb false]])]⟩ trivial ?_ ?_
   .constructor<;>(try simp(maxSteps:=2000000) (disch:=omega) only[go_sem,simprocAttr,zD,zE,hone,ctl,eOu,Kd,Ke])
   (try simp(maxSteps:=2000000) (disch:=omega) only[go_sem,simprocAttr,zD,zE]);refine zN [4,5,7,8,16,254] [U,U,U,U,U,U,U,V [0],V [],V []] ?_;refine zK [6] hFl ?_;by_cases he:er=0
   .subst he;simp only[tRes,tBk,if_true] at hTe;have hti:(ir eOu out).take out.length=ir eOu out:=Ka wu;(refine qbd ?_;refine zW ?_;refine callG_of [6] (hTe) zU ?_);(try simp(maxSteps:=2000000) (disch:=omega) only[go_sem,simprocAttr,zD,zE,hti,Kb,hFFl])
   .have hd:=hse he;simp only[errT,Td.mk.injEq] at hd;obtain⟨rfl,rfl,rfl,rfl, -⟩:=hd;simp only[tRes,tBk,if_neg he] at hTe;(refine qbd ?_;refine zW ?_;refine callG_of [6] (hTe) zU ?_);(try simp(maxSteps:=2000000) (disch:=omega) only[go_sem,simprocAttr,zD,zE,errT,zNo,zHs,zMk,zHu,zTr,zPc])
  .simp only[if_true] at hTe hFl;generalize markM x.m x.h e at_=mk at *;obtain⟨⟨v1,v8,⟨v2,v3,v4,v5,v6,v7⟩⟩,vb⟩:=mk;obtain⟨⟨h1,h2,h3,h4,h5'⟩,⟨m1,m2,⟨m3,m4,m5,m6,m7,m8⟩⟩,⟨u1,⟨u2,u3,u4,u5,u6,u7⟩⟩,⟨t1,t2,t3,t4⟩,got,heard,told,seen⟩:=x;simp only at *;rw[show kindN true=1 from rfl];refine pcall0 200 (fn:=f202) func202 rfl ve zB zB λhs=>?_;(try simp(maxSteps:=2000000) (disch:=omega) only[go_sem,simprocAttr,zD,zE]);refine zN [2,4,5,7,8,254] [U,U,U,U,U,U,U,U,U,U,U,V [0,1,2,3,4,5,12,18],U,V [0,1,2,3,4,5,18],V [18],U,U,U,V [0,1,2,3,4,5,6,7,8,9,10,11,12,13,14,15,16,17],V [17],U] ?_;refine zX hI ?_;refine zX hP ?_;refine zX hMk ?_;refine zN [2,4,5,7,8,254] [U,U,U,U,U,U,U,U,U,U,V [0,1,2,3,4,16],U,V [16],U,U,U,V [0,1,2,3,4,5,6,7,8,9,10,11,12,13,14,15],V [15],U] ?_;refine zX hO ?_;refine zX hFd ?_;(refine qek 15 ?_;refine zW ?_;refine qaa (hBk) zB ?_;refine zV ?_);refine qgj (n:=0) (zs:= [(0, .agg [sci .i64 bk,sci .i64 3,sci .i64 e,sci .i64 0,sci .i64 0,nil0,sci .i64 0,sci .i64 0,sci .i64 0,nil0])]) (sz:=10) (cs:= [sci .i64 bk,sci .i64 3,sci .i64 e,sci .i64 0,sci .i64 0,nil0,sci .i64 0,sci .i64 0,sci .i64 0,nil0]) ?_ ?_ ?_ rfl ?_
   .rfl
   ·((try refine zW ?_);(try with_reducible exact True.intro))
   ·(try simp(maxSteps:=2000000) only[go_sem,simprocAttr,flit])
   (try simp(maxSteps:=2000000) only[go_sem,simprocAttr,qaM]);rw[qbG];have hone:ir eOu [(⟨bk,⟨3,e,(0,0), [],0,0,0, []⟩⟩:Ou)]= [(eOu ⟨bk,⟨3,e,(0,0), [],0,0,0, []⟩⟩).map IV.p]:=rfl;refine qaF 200 [] ⟨113, [(4, .ptr 0 0 0 0),(5, .ptr 1 0 0 0),(7, .ptr 2 0 0 0),(8, .ptr 3 0 0 0),(93, .ref 6 0 0 1)], [],7, [(6, .arr 10 0 (ir eOu [⟨bk,ctl 3 e⟩])),(3, .arr 32 0 [[sci .i64 0,sci .i64 0,sci .i64 0,nil0,nil0,sci .i64 0,nil0,sci .i64 0,sci .i64 0,sci .i64 0,nil0,nil0,nil0,sci .i64 0,sci .i64 0,sci .i64 0,sci .i64 0,nil0,nil0,nil0,sci .i64 0,sci .i64 0,sci .i64 0,nil0,nil0,sci .i64 0,sci .i64 0,nil0,nil0,nil0,nil0,sci .i64 0]]),(2, .arr 9 0 [[sci .i64 1,sci .i64 e,sci .i64 fm1,sci .i64 fm2,lPs fps,sci .i64 fi,sci .i64 fn,sci .i64 fc,lI fpa]]),(1, .arr 28 0 [cNo ⟨⟨h1,h2,h3,h4,h5'⟩,⟨v1,v8,⟨v2,v3,v4,v5,v6,v7⟩⟩,⟨u1,⟨u2,u3,u4,u5,u6,u7⟩⟩,⟨e,link,w, []⟩,got,heard,told,seen⟩]),(0, .arr 4 0 [[sci .i64 N, .p (.imm 2 (pr eII ls)), .p (.imm 2 (pr eNd T)),scb true]])]⟩ trivial ?_ ?_
   .constructor<;>(try simp(maxSteps:=2000000) (disch:=omega) only[go_sem,simprocAttr,zD,zE,hone,ctl,eOu,Kd,Ke])
   (try simp(maxSteps:=2000000) (disch:=omega) only[go_sem,simprocAttr,zD,zE]);refine zN [4,5,7,8,16,254] [U,U,U,U,U,U,U,V [0],V [],V []] ?_;refine zK [6] hFl ?_;by_cases he:er=0
   .subst he;simp only[tRes,tBk,if_true] at hTe;have hti:(ir eOu out).take out.length=ir eOu out:=Ka wu;(refine qbd ?_;refine zW ?_;refine callG_of [6] (hTe) zU ?_);(try simp(maxSteps:=2000000) (disch:=omega) only[go_sem,simprocAttr,zD,zE,hti,Kb,hFFl])
   .have hd:=hse he;simp only[errT,Td.mk.injEq] at hd;obtain⟨rfl,rfl,rfl,rfl, -⟩:=hd;simp only[tRes,tBk,if_neg he] at hTe;(refine qbd ?_;refine zW ?_;refine callG_of [6] (hTe) zU ?_);(try simp(maxSteps:=2000000) (disch:=omega) only[go_sem,simprocAttr,zD,zE,errT,zNo,zHs,zMk,zHu,zTr,zPc])
end Go.Proofs.NO
