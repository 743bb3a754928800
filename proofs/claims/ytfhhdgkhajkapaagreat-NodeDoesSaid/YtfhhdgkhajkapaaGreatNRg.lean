/- The document's node: what comes to it, what it picks. -/
import Derived.Test.YtfhhdgkhajkapaaGreatNRf
set_option linter.all false
open Option renaming none->U
namespace Go.Proofs.NO
open Go Go.Idl Go.Proofs Go.GP Go.Proofs.Tryz
set_option maxHeartbeats 0
set_option maxRecDepth 100000
def qoI(N:Int)(ls:List (Int × Int))(T:List Nd)(ff:Bool)(x:No)(link:Int)(f:Fm)(t:Int)(h:NOk N ls T t x)(ht:0<=t)(hb:t<=1000)(hl:ls.length<=1000000)(hT:qcX T):
  Pure prog 201 [lAp N ls T ff,lNo x,sci .i64 link,lFm f] (lTq (appN ls ff (stOf T x.h) x link f)):=by
 obtain⟨n,j,nd,g⟩:=h.hf;have hst:=h.st;have hTk:=R9Take_spec ⟨N,ls,T,ff,0, []⟩ x.h link f.m n j nd (stOf T x.h) g.hn g.hj g.hx g.hq g.gHs hl (((hT.2 n nd g.hx).2 j _ g.hq).2.2) g.inl g.rows ⟨g.st0.1,wa⟩;have hI:=qbu N x.h.node ls hl;have hP:=qbB (ins x.h.node 0 ls) link;have hA:=qoG x.m (indexL link 0 (ins x.h.node 0 ls)) f.m (h.gm.g hb) h.mo (λl hl'=>by have:=h.gm.ii l hl';omega);obtain⟨gh,i5⟩:=h.gH;have hTu:=qeq x.u x.h f.epoch gh;clear h g;simp only at hTk;unfold appN;generalize takeH ls (stOf T x.h) x.h link f.m=r at *;obtain⟨⟨w1,w2,w3,w4,w5⟩,e⟩:=r;simp only at hTk ⊢;generalize indexL link 0 (ins x.h.node 0 ls)=at_ at *;by_cases he:e=0
 rotate_left
 .rw[if_pos he];have eb:(e != 0)=true:=bne_iff_ne.2 he;obtain⟨⟨h1,h2,h3,h4,h5'⟩,⟨m1,m2,⟨m3,m4,m5,m6,m7,m8⟩⟩,⟨u1,⟨u2,u3,u4,u5,u6,u7⟩⟩,⟨t1,t2,t3,t4⟩,got,heard,told,seen⟩:=x;obtain⟨f1,f2,⟨f3,f4⟩,f5,f6,f7,f8,f9⟩:=f;refine pcall0 200 (fn:=f201) func201 rfl (by simp[ntmps201]) zB zB λhs=>?_;(try simp(maxSteps:=2000000) (disch:=omega) only[go_sem,simprocAttr,zD,zE]);(refine zG ?_;refine qaa (hTk) zB ?_);(try simp(maxSteps:=2000000) (disch:=omega) only[go_sem,simprocAttr,zD,zE,eb,errT,zNo,zHs,zMk,zHu,zTr,zPc])
 subst he;rw[if_neg wh];cases ff
 .simp only[Bool.false_eq_true,if_false];generalize turnU x.u x.h f.epoch=tu at *;obtain⟨⟨v1,⟨v2,v3,v4,v5,v6,v7⟩⟩,vb⟩:=tu;obtain⟨⟨h1,h2,h3,h4,h5'⟩,⟨m1,m2,⟨m3,m4,m5,m6,m7,m8⟩⟩,⟨u1,⟨u2,u3,u4,u5,u6,u7⟩⟩,⟨t1,t2,t3,t4⟩,got,heard,told,seen⟩:=x;obtain⟨f1,f2,⟨f3,f4⟩,f5,f6,f7,f8,f9⟩:=f;simp only at *;refine pcall0 200 (fn:=f201) func201 rfl (by simp[ntmps201]) zB zB λhs=>?_;(try simp(maxSteps:=2000000) (disch:=omega) only[go_sem,simprocAttr,zD,zE]);refine zY hTk ?_;(refine zG ?_;refine qaa (hTu) zB ?_);(try simp(maxSteps:=2000000) (disch:=omega) only[go_sem,simprocAttr,zD,zE])
 .simp only[if_true];generalize appM x.m at_ f.m=mk at *;obtain⟨v1,v8,⟨v2,v3,v4,v5,v6,v7⟩⟩:=mk;obtain⟨⟨h1,h2,h3,h4,h5'⟩,⟨m1,m2,⟨m3,m4,m5,m6,m7,m8⟩⟩,⟨u1,⟨u2,u3,u4,u5,u6,u7⟩⟩,⟨t1,t2,t3,t4⟩,got,heard,told,seen⟩:=x;obtain⟨f1,f2,⟨f3,f4⟩,f5,f6,f7,f8,f9⟩:=f;simp only at *;refine pcall0 200 (fn:=f201) func201 rfl (by simp[ntmps201]) zB zB λhs=>?_;(try simp(maxSteps:=2000000) (disch:=omega) only[go_sem,simprocAttr,zD,zE]);refine zY hTk ?_;refine zN [2,4,5,7,8,9,254] [U,U,U,U,U,U,U,some [0,1,8,10,11],U,some [0,1,10,11],U,U,some [],U,some []] ?_;refine zX hI ?_;refine zX hP ?_;(refine zF ?_;refine qaa (hA) zB ?_);(try simp(maxSteps:=2000000) (disch:=omega) only[go_sem,simprocAttr,zD,zE])
def qid(N:Int)(ls:List (Int × Int))(T:List Nd)(ff:Bool)(x:No)(link:Int)(f:Fm)(t:Int)(h:NOk N ls T t x)(ht:0<=t)(hb:t+1<=1000)(hup:UpOk x)(hl:ls.length<=1000000)(hp: ∀p∈f.ps,qaD p)(h6:f.ps.length<=6):
  Pure prog 204 [lAp N ls T ff,lNo x,sci .i64 link,lFm f] (lTq (reportedN ls ff x link f)):=by
 have hBk:=qcn N ls link hl;have g6:=h.got6;have hM:Pure prog 257 [lPs x.got,lPs f.ps] (.tup [lPs (mrg x.got f.ps).1,sci .i64 (mrg x.got f.ps).2]):=by
  rw[<-mD_mrg];exact qd1 x.got f.ps wa
 have hK:=qj1 x.t.kids (backL ls link) (by have:=h.tk;omega);have hhd:=h.hd;by_cases c:f.epoch≠x.t.epoch\/x.told=f.epoch\/backL ls link ∉ x.t.kids
 .have z:reportedN ls ff x link f=errT 1:=by unfold reportedN;rw[if_pos c]
  rw[z];clear z h hM hup;generalize backL ls link=bk at *;obtain⟨⟨h1,h2,h3,h4,h5'⟩,⟨m1,m2,⟨m3,m4,m5,m6,m7,m8⟩⟩,⟨u1,⟨u2,u3,u4,u5,u6,u7⟩⟩,⟨t1,t2,t3,t4⟩,got,heard,told,seen⟩:=x;obtain⟨f1,f2,⟨f3,f4⟩,f5,f6,f7,f8,f9⟩:=f;simp only at c hK;refine pcall0 200 (fn:=f204) func204 rfl (by simp[ntmps204]) zB zB λhs=>?_;(try simp only[go_sem,simprocAttr]);(refine zM [2,4,5,7,8,254] ?_;refine zI [U,U,U,U,U,U,U,U,U,U,U,U,U,U,U,U,U,U,U,U,some [14,15,16],some [],U,U] ?_);by_cases c1:f2=t1
  rotate_left
  ·(try simp(maxSteps:=2000000) (disch:=omega) only[go_sem,simprocAttr,zD,zE,c1,errT,zNo,zHs,zMk,zHu,zTr,zPc])
  by_cases c2:told=f2
  ·(try simp(maxSteps:=2000000) (disch:=omega) only[go_sem,simprocAttr,zD,zE,c1,c2,errT,zNo,zHs,zMk,zHu,zTr,zPc])
  have c3:bk ∉ t4:=by
   rcases c with c | c | c
   .exact absurd c1 c
   .exact absurd c c2
   .exact c
  have e3:=qah c3;refine zS (zQ c1 c2) ?_;(refine zF ?_;refine qaa (hBk) zB ?_);refine zS (zQ c1 c2) ?_;(refine zF ?_;refine qaa (hK) zB ?_);(try simp(maxSteps:=2000000) (disch:=omega) only[go_sem,simprocAttr,zD,zE,e3,errT,zNo,zHs,zMk,zHu,zTr,zPc])
 have c1:f.epoch=x.t.epoch:=Classical.byContradiction λq=>c (.inl q)
 have c2: ¬x.told=f.epoch:=λq=>c (.inr (.inl q))
 have c3:backL ls link∈x.t.kids:=Classical.byContradiction λq=>c (.inr (.inr q))
 have e3:=qaj c3;by_cases c4:(mrg x.got f.ps).2=0
 rotate_left
 .have z:reportedN ls ff x link f=errT (mrg x.got f.ps).2:=by unfold reportedN;rw[if_neg c,if_pos c4]
  rw[z];clear z h hup c;generalize backL ls link=bk at *;generalize mrg x.got f.ps=r at *;obtain⟨all,e⟩:=r;obtain⟨⟨h1,h2,h3,h4,h5'⟩,⟨m1,m2,⟨m3,m4,m5,m6,m7,m8⟩⟩,⟨u1,⟨u2,u3,u4,u5,u6,u7⟩⟩,⟨t1,t2,t3,t4⟩,got,heard,told,seen⟩:=x;obtain⟨f1,f2,⟨f3,f4⟩,f5,f6,f7,f8,f9⟩:=f;simp only at c1 c2 c3 c4 hK hM e3;have eb:(e != 0)=true:=bne_iff_ne.2 c4;refine pcall0 200 (fn:=f204) func204 rfl (by simp[ntmps204]) zB zB λhs=>?_;(try simp only[go_sem,simprocAttr]);(refine zM [2,4,5,7,8,254] ?_;refine zI [U,U,U,U,U,U,U,U,U,U,U,U,U,U,U,U,U,U,U,U,some [14,15,16],some [],U,U] ?_);refine zS c1 ?_;(refine zF ?_;refine qaa (hBk) zB ?_);refine zS c1 ?_;(refine zF ?_;refine qaa (hK) zB ?_);refine zS e3 ?_;(refine zG ?_;refine qaa (hM) zB ?_);(try simp(maxSteps:=2000000) (disch:=omega) only[go_sem,simprocAttr,zD,zE,eb,errT,zNo,zHs,zMk,zHu,zTr,zPc])
 have h1:=h.mono (u:=t+1) wa;have hx:NOk N ls T (t+1) ⟨x.h,x.m,x.u,x.t,(mrg x.got f.ps).1,x.heard+1,x.told,x.seen⟩:=by
  rcases mrg_cases x.got f.ps with ⟨q,_⟩ | ⟨_,q1,q2⟩
  .rw[q] at c4;exact absurd c4 wh
  exact⟨h1.host,h1.st,h1.gm,h1.m0,h1.mo,h1.ml,h1.gu,h1.u0,h1.un,h1.tw,h1.te,h1.tk,λp hp'=>by
   rcases List.mem_append.1 (q1.mem_iff.1 hp') with z | z
   .exact h.got p z
   .exact hp p z,q2,⟨we,we⟩,h1.td,h1.sn⟩
 have z:reportedN ls ff x link f=qak ls ff ⟨⟨x.h,x.m,x.u,x.t,(mrg x.got f.ps).1,x.heard+1,x.told,x.seen⟩, [], [], [],0⟩:=by unfold reportedN;rw[if_neg c,if_neg (λq=>q c4)]
 have hTe:=qkA N ls T ff _ (t+1) hx hb hup hl;rw[<-z] at hTe;rw[c4] at hM;generalize reportedN ls ff x link f=d at *;clear z h h1 hx hup c;generalize backL ls link=bk at *;generalize (mrg x.got f.ps).1=all at *;obtain⟨⟨h1,h2,h3,h4,h5'⟩,⟨m1,m2,⟨m3,m4,m5,m6,m7,m8⟩⟩,⟨u1,⟨u2,u3,u4,u5,u6,u7⟩⟩,⟨t1,t2,t3,t4⟩,got,heard,told,seen⟩:=x;obtain⟨f1,f2,⟨f3,f4⟩,f5,f6,f7,f8,f9⟩:=f;simp only at c1 c2 c3 hK hM e3 hTe hhd;subst c1;refine pcall0 200 (fn:=f204) func204 rfl (by simp[ntmps204]) zB zB λhs=>?_;(try simp only[go_sem,simprocAttr]);refine zN [2,4,5,7,8,254] [U,U,U,U,U,U,U,U,U,U,U,U,U,U,U,U,U,U,U,U,some [14,15,16],some [],U,U] ?_;refine zX hBk ?_;(refine zF ?_;refine qaa (hK) zB ?_);refine zS e3 ?_;refine zY hM ?_;(refine qfG 200 ?_;refine zW ?_;refine qaa (hTe) zB ?_);(try simp(maxSteps:=2000000) (disch:=omega) only[go_sem,simprocAttr,zD,zE])
end Go.Proofs.NO
