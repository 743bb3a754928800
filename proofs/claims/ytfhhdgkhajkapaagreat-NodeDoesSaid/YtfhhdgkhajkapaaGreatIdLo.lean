/- Facts leant on. -/
import Derived.Test.YtfhhdgkhajkapaaGreatNRc
import Derived.Test.YtfhhdgkhajkapaaGreatNtA
import Derived.Test.YtfhhdgkhajkapaaGreatNzP2
import Derived.Test.YtfhhdgkhajkapaaGreatGN
import Derived.Test.YtfhhdgkhajkapaaGreatIdFr
set_option linter.all false
open True renaming intro->Ka
open List renaming take_of_length_le->Kb,getElem_mem->Kc,getElem?_eq_getElem->Kd,replicate->Ke,length_take->Kf,map_cons->Kg,map_nil->Kh,append_assoc->Ki
open Int renaming toNat_natCast->Kj,eq_ofNat_of_zero_le->Kk,natCast_zero->Kl
open Option renaming none->U,some->V
open Bool renaming true->Y
/- The document's mark takes a marker, a message; a node for the document, and the same one. -/
namespace Go.Proofs.NO
open Go Go.Idl Go.Proofs Go.GP Go.Proofs.Tryz
set_option maxHeartbeats 0
set_option maxRecDepth 100000
def qjE(m:Mk)(h:Hs)(e a:Int)(hh:gHs h)(h5:h.inn.length<=5)(hg:gPc m.p)(ho:m.opn.length<=1000000)(hl:m.epoch=e->m.opn.length=h.inn.length):
  Pure prog 259 [lMk m,lHs h,sci .i64 e,sci .i64 a] (.tup [lMk (markM m h e a).1,scb (markM m h e a).2]):=by
 refine pcall0 200 (fn:=f259) func259 rfl (by simp[ntmps259]) zB zB λhs=>?_;refine zV ?_;by_cases c1:a < 0
 .have z:markM m h e a=(m,false):=by unfold markM;rw[if_pos (.inl c1)]
  rw[z];(try simp(maxSteps:=2000000) (disch:=omega) only[go_sem,simprocAttr,if_pos,if_neg,w64,beqT,beqF,bneT,bneF,qag,qaf,decide_eq_true,decide_eq_false,c1])
 by_cases c2:(h.inn.length:Int)<=a
 .have z:markM m h e a=(m,false):=by unfold markM;rw[if_pos (.inr c2)]
  rw[z];(try simp(maxSteps:=2000000) (disch:=omega) only[go_sem,simprocAttr,if_pos,if_neg,w64,beqT,beqF,bneT,bneF,qag,qaf,decide_eq_true,decide_eq_false,c1,c2])
 obtain⟨k,rfl⟩:=Kk (show 0<=a by omega);have hk:k < h.inn.length:=wa
 by_cases c3:m.epoch=e
 .have z:markM m h e k=(⟨m.epoch,m.opn.set k false,m.p⟩,false):=by unfold markM;rw[if_neg wa,if_pos c3,Kj]
  rw[z];subst c3;have hk2:=hl rfl;have hk3:k < m.opn.length:=wa
  (try simp(maxSteps:=2000000) (disch:=omega) only[go_sem,simprocAttr,if_pos,if_neg,w64,beqT,beqF,bneT,bneF,qag,qaf,decide_eq_true,decide_eq_false,c1,c2]);(refine at_g 200 ?_;refine zW ?_;refine callG_of [] (qhR m hg ho) zU ?_);(try simp(maxSteps:=2000000) (disch:=omega) only[go_sem,simprocAttr,if_pos,if_neg,w64,beqT,beqF,bneT,bneF,qag,qaf,decide_eq_true,decide_eq_false,eB]);rw[Kb wc]
 .have z:markM m h e k=(⟨e,(Ke h.inn.length Y).set k false,pcF h⟩,Y):=by unfold markM;rw[if_neg wa,if_neg c3,Kj]
  rw[z];(try simp(maxSteps:=2000000) (disch:=omega) only[go_sem,simprocAttr,if_pos,if_neg,w64,beqT,beqF,bneT,bneF,qag,qaf,decide_eq_true,decide_eq_false,c1,c2,c3]);refine zY (qgm h e hh) ?_;have hg2:gPc (beginM h e).p:=by
   obtain⟨g1,g2,g3,g4⟩:=hh;exact⟨vr,vr,by simp[beginM,pcF],λx hx=>by simp only[beginM,pcF] at hx;rw[(List.mem_replicate.1 hx).2];simp,λx hx=>by simp[beginM,pcF] at hx⟩
  have hlen:(Ke h.inn.length Y).length=h.inn.length:=List.length_replicate;have ho2:=qhR (beginM h e) hg2 vK;(refine at_g 200 ?_;refine zW ?_;refine callG_of [] (ho2) zU ?_);(try simp(maxSteps:=2000000) (disch:=omega) only[go_sem,simprocAttr,if_pos,if_neg,w64,beqT,beqF,bneT,bneF,qag,qaf,decide_eq_true,decide_eq_false,eB,beginM]);rw[Kb wc]
def qoH(m:Mk)(hg:gPc m.p)(ho:m.opn.length<=1000000)(i0:Nat)(h0:i0 < m.p.inn.length):PG prog 304 [lMk m] [] 2
  (.agg [sci .i64 m.epoch,lBo m.opn,sci .i64 m.p.node,sci .i64 m.p.state,sci .i64 m.p.steps,lI m.p.sent, .ref 0 m.p.inn.length 0 m.p.inn.length,lLs m.p.out])
  [(0, .arr 1 m.p.inn.length (qas m.p.inn i0 1 m.p.inn[i0].length m.p.inn.length)),(1, .arr 2 0 (ir eII m.p.inn[i0]))]:=by
 obtain⟨ep,opn,⟨q1,q2,q3,q4,inn,q6⟩⟩:=m;obtain⟨b1,b2,b3,b4,b5⟩:=hg;simp only at ho b1 b2 b3 b4 b5 h0 ⊢;refine pg_of 200 (fn:=f304) func304 rfl (by simp[ntmps304]) 0 rfl zC zC zC zC zC λhs=>?_;(try simp(maxSteps:=2000000) (disch:=omega) only[go_sem,simprocAttr,if_pos,if_neg,w64,beqT,beqF,bneT,bneF,qag,qaf,decide_eq_true,decide_eq_false,maxLen]);refine zN [1,2,111] [U,U,V [0,1,3,4,6,7,9],U,U,V [0,1,6,7,9],U,U,U,V [0,1,2,3,4,5,6,7,8],V []] ?_;refine walk_ownB 3 0 6 1 trivial rfl rfl rfl (.inr rfl) ?_;simp only[List.set_cons_zero,List.set_cons_succ,Nat.reduceAdd];(refine walk_trim [1,2,3,4,111] trivial zL ?_;((try refine zW ?_);(try with_reducible exact Ka)));refine qac 200 200 (λi:Nat × Bool=>i.1<=inn.length/\(i.2=Y↔i0 < i.1))
  (λi=>match i.2 with
   | false=>⟨40, [(1, .ptr 0 0 0 0),(2, .ptr 1 0 0 0),(3, .ptr 3 0 0 0),(4,sci .i64 i.1)], [],5, [(4, .arr 1 i.1 (ir eMs (inn.take i.1))),(3, .arr 8 0 [[sci .i64 ep,lBo opn,sci .i64 q1,sci .i64 q2,sci .i64 q3,lI q4, .ref 4 i.1 0 i.1,lLs q6]]),(1, .arr 8 0 [[sci .i64 0,nil0,sci .i64 0,sci .i64 0,sci .i64 0,nil0,nil0,nil0]]),(0, .arr 8 0 [[sci .i64 ep,lBo opn,sci .i64 q1,sci .i64 q2,sci .i64 q3,lI q4,lMs inn,lLs q6]])]⟩
   | true=>⟨40, [(1, .ptr 0 0 0 0),(2, .ptr 1 0 0 0),(3, .ptr 3 0 0 0),(4,sci .i64 i.1)], [],6, [(4, .arr 1 i.1 (qas inn i0 5 inn[i0].length i.1)),(5, .arr 2 0 (ir eII inn[i0])),(3, .arr 8 0 [[sci .i64 ep,lBo opn,sci .i64 q1,sci .i64 q2,sci .i64 q3,lI q4, .ref 4 i.1 0 i.1,lLs q6]]),(1, .arr 8 0 [[sci .i64 0,nil0,sci .i64 0,sci .i64 0,sci .i64 0,nil0,nil0,nil0]]),(0, .arr 8 0 [[sci .i64 ep,lBo opn,sci .i64 q1,sci .i64 q2,sci .i64 q3,lI q4,lMs inn,lLs q6]])]⟩) (λi=>inn.length - i.1) (0,false) [2] ?_ ?_ ?_
 .simp
 .constructor<;>(try simp(maxSteps:=2000000) (disch:=omega) only[go_sem,simprocAttr,if_pos,if_neg,w64,beqT,beqF,bneT,bneF,qag,qaf,decide_eq_true,decide_eq_false,Kl,List.take_zero,eB])
 .rintro⟨i,ph⟩ ⟨h1,h3⟩;simp only at h1 h3;cases ph
  .have hle:i<=i0:=by
    rcases Nat.lt_or_ge i0 i with q | q
    .have:=h3.2 q;cases this
    .exact q
   have hl':i < inn.length:=wa
   have hlt:(inn.take i).length=i:=by rw[Kf];omega
   have hl2:(inn.take i).take i=inn.take i:=wR
   have hrl:=b4 _ (Kc hl');refine zV ?_;(try simp(maxSteps:=2000000) (disch:=omega) only[go_sem,simprocAttr,if_pos,if_neg,w64,beqT,beqF,bneT,bneF,qag,qaf,decide_eq_true,decide_eq_false,eMs]);(refine zM [1,2,3,4,111] ?_;refine zI [U,U,U,V [0,1,2,4,5,6,7,8,9],U,U,U,U,U,U,V [0,1,2],V [0,1,2],V [],U,U,V []] ?_);(try simp(maxSteps:=2000000) (disch:=omega) only[go_sem,simprocAttr,if_pos,if_neg,w64,beqT,beqF,bneT,bneF,qag,qaf,decide_eq_true,decide_eq_false,eMs,hlt,hl2]);rcases Nat.lt_or_ge i i0 with hi | hi
   .refine⟨(i+1,false), [5],⟨hl',⟨(λq=>by cases q),(λq=>by simp only at q;omega)⟩⟩,we,?_⟩;have hS:inn.take (i+1)=inn.take i++ [inn[i]]:=List.take_succ_eq_append_getElem hl';constructor<;>(try simp(maxSteps:=2000000) (disch:=omega) only[go_sem,simprocAttr,if_pos,if_neg,w64,beqT,beqF,bneT,bneF,qag,qaf,decide_eq_true,decide_eq_false,ir_snoc,hS,hlt,hl2,eMs,Kg,Kh])
   .obtain rfl:i=i0:=wa
    refine⟨(i+1,Y), [],⟨hl',wc⟩,we,?_⟩;have e2:qas inn i 5 inn[i].length (i+1)=ir eMs (inn.take i)++ [[.ref 5 0 0 inn[i].length]]:=by
     unfold qas;rw[List.drop_eq_nil_of_le (by rw[Kf];omega)];rfl
    constructor<;>(try simp(maxSteps:=2000000) (disch:=omega) only[go_sem,simprocAttr,if_pos,if_neg,w64,beqT,beqF,bneT,bneF,qag,qaf,decide_eq_true,decide_eq_false,e2,hl2,hlt])
  .have hle:i0 < i:=h3.1 rfl;have hrl:(qas inn i0 5 inn[i0].length i).length=i:=qjo hle h1;have hrt:(qas inn i0 5 inn[i0].length i).take i=qas inn i0 5 inn[i0].length i:=Kb wa;refine zV ?_;by_cases hl':i < inn.length
   .have e2:qas inn i0 5 inn[i0].length (i+1)=qas inn i0 5 inn[i0].length i++ [(eMs inn[i]).map .p]:=qh6 hle hl';have hrl2:=b4 _ (Kc hl');(try simp(maxSteps:=2000000) (disch:=omega) only[go_sem,simprocAttr,if_pos,if_neg,w64,beqT,beqF,bneT,bneF,qag,qaf,decide_eq_true,decide_eq_false,eMs]);(refine zM [1,2,3,4,111] ?_;refine zI [U,U,U,V [0,1,2,4,5,6,7,8,9],U,U,U,U,U,U,V [0,1,2],V [0,1,2],V [],U,U,V []] ?_);(try simp(maxSteps:=2000000) (disch:=omega) only[go_sem,simprocAttr,if_pos,if_neg,w64,beqT,beqF,bneT,bneF,qag,qaf,decide_eq_true,decide_eq_false,eMs,hrl,hrt]);refine⟨(i+1,Y), [6],⟨hl',⟨λ_=>by simp only;omega,λ_=>rfl⟩⟩,we,?_⟩;constructor<;>(try simp(maxSteps:=2000000) (disch:=omega) only[go_sem,simprocAttr,if_pos,if_neg,w64,beqT,beqF,bneT,bneF,qag,qaf,decide_eq_true,decide_eq_false,e2,hrt,hrl,eMs,Kg,Kh])
   .obtain rfl:i=inn.length:=wa
    (try simp(maxSteps:=2000000) (disch:=omega) only[go_sem,simprocAttr,if_pos,if_neg,w64,beqT,beqF,bneT,bneF,qag,qaf,decide_eq_true,decide_eq_false,hrl,hrt]);refine⟨[4,5],⟨rfl,wD⟩,rfl,?_⟩;refine⟨⟨rfl,rfl,?_⟩,?_⟩
    .rw[qhi];exact qaB _
    .exact⟨rfl,rfl,qaB _⟩
def qoG(m:Mk)(a:Int)(x:Int × Int)(hg:gPc m.p)(ho:m.opn.length=m.p.inn.length)(hi: ∀l∈m.p.inn,l.length<=999999):
  Pure prog 258 [lMk m,sci .i64 a, .agg [sci .i64 x.1,sci .i64 x.2]] (lMk (appM m a x)):=by
 have hil:=hg.inn;refine pcall0 200 (fn:=f258) func258 rfl (by simp[ntmps258]) zB zB λhs=>?_;refine zP ?_;by_cases c1:a < 0
 .have z:appM m a x=m:=by unfold appM;rw[if_pos (.inl c1)]
  rw[z];(try simp(maxSteps:=2000000) (disch:=omega) only[go_sem,simprocAttr,if_pos,if_neg,w64,beqT,beqF,bneT,bneF,qag,qaf,decide_eq_true,decide_eq_false,c1])
 by_cases c2:(m.opn.length:Int)<=a
 .have z:appM m a x=m:=by unfold appM;rw[if_pos (.inr (.inl c2))]
  rw[z];(try simp(maxSteps:=2000000) (disch:=omega) only[go_sem,simprocAttr,if_pos,if_neg,w64,beqT,beqF,bneT,bneF,qag,qaf,decide_eq_true,decide_eq_false,c1,c2])
 obtain⟨k,rfl⟩:=Kk (show 0<=a by omega);have hk:k < m.opn.length:=wa
 have hk2:k < m.p.inn.length:=wa
 by_cases c3:m.opn[k]=Y
 rotate_left
 .have c3':m.opn[k]=false:=by simpa using c3
  have z:appM m k x=m:=by unfold appM;rw[if_pos (.inr (.inr (by rw[Kj,Kd hk,c3'];simp)))]
  rw[z];(try simp(maxSteps:=2000000) (disch:=omega) only[go_sem,simprocAttr,if_pos,if_neg,w64,beqT,beqF,bneT,bneF,qag,qaf,decide_eq_true,decide_eq_false,c1,c2,eB,c3'])
 have z:appM m k x=⟨m.epoch,m.opn,⟨m.p.node,m.p.state,m.p.steps,m.p.sent,m.p.inn.set k (m.p.inn[k]++ [x]),m.p.out⟩⟩:=by
  unfold appM;rw[if_neg (by rw[Kj,Kd hk,c3];intro q;rcases q with q | q | q;omega;omega;exact q rfl)];rw[Kj,Kd hk2,Option.getD_some]
 rw[z];have hik:=hi _ (Kc hk2);have hgo:=qoH m hg wa k hk2;generalize m.p.inn[k]=row at hgo hik ⊢;(try simp(maxSteps:=2000000) (disch:=omega) only[go_sem,simprocAttr,if_pos,if_neg,w64,beqT,beqF,bneT,bneF,qag,qaf,decide_eq_true,decide_eq_false,c1,c2,eB,c3]);obtain⟨x1,x2⟩:=x;have hg1:=qgc (l:=m.p.inn) (i0:=k) (b:=4) (n:=row.length) (i:=m.p.inn.length) hk2;have hset:=qgd (l:=m.p.inn) (i0:=k) (b:=4) (n:=row.length) hk2 (x:=row++ [(x1,x2)]);have hnt:(ir eII (row++ [(x1,x2)])).take (row.length+1)=ir eII (row++ [(x1,x2)]):=Kb wu;have hsn:ir eII (row++ [(x1,x2)])=ir eII row++ [[sci .i64 x1,sci .i64 x2]]:=by rw[ir_snoc];rfl
 (refine at_g 200 ?_;refine zW ?_;refine callG_of [] (hgo) zU ?_);(try simp(maxSteps:=2000000) (disch:=omega) only[go_sem,simprocAttr,if_pos,if_neg,w64,beqT,beqF,bneT,bneF,qag,qaf,decide_eq_true,decide_eq_false,qeF]);(refine walk_trim [1,5,6,7,111] trivial zL ?_;((try refine zW ?_);(try with_reducible exact Ka)));refine irun_walk (id:=4) (n:=0) [U,U,U,U,U,U,U,U,U,U,U,V [0,1,2,3,4,5,6,7,8,9],V [0,1,2,3],U,V []] mixed wb ?_;(try simp(maxSteps:=2000000) (disch:=omega) only[go_sem,simprocAttr,if_pos,if_neg,w64,beqT,beqF,bneT,bneF,qag,qaf,decide_eq_true,decide_eq_false,hg1]);rw[qbG];refine qaF 200 [4] ⟨43, [(6, .ptr 2 0 0 0),(7, .ptr 5 0 0 0)], [],6,
  [(5, .arr 8 0 [[sci .i64 m.epoch,lBo m.opn,sci .i64 m.p.node,sci .i64 m.p.state,sci .i64 m.p.steps,lI m.p.sent, .ref 3 m.p.inn.length 0 m.p.inn.length,lLs m.p.out]]),(3, .arr 1 m.p.inn.length (ir eMs (m.p.inn.set k (row++ [(x1,x2)])))),
   (2, .arr 8 0 [[sci .i64 0,nil0,sci .i64 0,sci .i64 0,sci .i64 0,nil0,nil0,nil0]])]⟩ trivial ?_ ?_
 .constructor
  case blks=>
   refine zP ?_;rw[<-hset];refine qik ?_;refine zP ?_;erw[<-hsn,hnt];((try refine zO ?_);(try with_reducible exact Ka))
  all_goals((try refine zO ?_);(try with_reducible exact Ka))
 refine zP ?_;rw[Kb wc]
def qiC(h:Hs):Pure prog 47 [lHs h] (lHs h):=by
 refine pcall0 200 (fn:=f47) func47 rfl (by simp[ntmps47]) zB zB λhs=>?_;(repeat(first | ((refine zW ?_;try with_reducible exact Ka))))
def qnS(m:Mk):Pure prog 119 [lMk m] (lMk m):=by
 obtain⟨ep,opn,⟨q1,q2,q3,q4,q5,q6⟩⟩:=m;refine pcall0 200 (fn:=f119) func119 rfl (by simp[ntmps119]) zB zB λhs=>?_;refine zV ?_;(refine zM [1,2,111] ?_;refine zI [U,U,U,U,U,U,V [0,1,2,3],U,V []] ?_);refine zV ?_;(refine zF ?_;refine qaa (qfC ⟨q1,q2,q3,q4,q5,q6⟩) zB ?_);((try refine zW ?_);(try with_reducible exact Ka))
def qnT(u:Hu):Pure prog 120 [lHu u] (lHu u):=by
 obtain⟨ep,⟨q1,q2,q3,q4,q5,q6⟩⟩:=u;refine pcall0 200 (fn:=f120) func120 rfl (by simp[ntmps120]) zB zB λhs=>?_;refine zV ?_;(refine zM [1,2,113] ?_;refine zI [U,U,U,U,V [0,1],U,V []] ?_);refine zV ?_;(refine zF ?_;refine qaa (qfC ⟨q1,q2,q3,q4,q5,q6⟩) zB ?_);((try refine zW ?_);(try with_reducible exact Ka))
def qe3(x:No)(hn:x.got.length<=1000):Pure prog 44 [lNo x] (lNo x):=by
 obtain⟨⟨h1,h2,h3,h4,h5⟩,⟨m1,m2,⟨m3,m4,m5,m6,m7,m8⟩⟩,⟨u1,⟨u2,u3,u4,u5,u6,u7⟩⟩,⟨t1,t2,t3,t4⟩,got,heard,told,seen⟩:=x;simp only at hn;refine pcall0 200 (fn:=f44) func44 rfl (by simp[ntmps44]) zB zB λhs=>?_;refine zV ?_;(refine zM [1,2,116] ?_;refine zI [U,U,V [3,4,6,7,9,10,12,13,15,16,17,18,19,20],U,U,V [6,7,9,10,12,13,15,16,17,18,19,20],U,U,V [9,10,12,13,15,16,17,18,19,20],U,U,V [12,13,15,16,17,18,19,20],U,U,V [15,16,17,18,19,20],U,U,U,U,U,U,U,V []] ?_);refine zV ?_;(refine zF ?_;refine qaa (qiC ⟨h1,h2,h3,h4,h5⟩) zB ?_);refine zV ?_;(refine zF ?_;refine qaa (qnS ⟨m1,m2,⟨m3,m4,m5,m6,m7,m8⟩⟩) zB ?_);refine zV ?_;(refine zF ?_;refine qaa (qnT ⟨u1,⟨u2,u3,u4,u5,u6,u7⟩⟩) zB ?_);refine zV ?_;(refine zF ?_;refine qaa (qsA t1 t2 t3 t4) zB ?_);refine zV ?_;(refine zF ?_;refine qaa (Refs_spec got hn) zB ?_);((try refine zW ?_);(try with_reducible exact Ka))
def qkU(m:Mk)(hg:gPc m.p)(ho:m.opn.length<=1000000):Pure prog 115 [lMk m,lMk m] (scb Y):=by
 obtain⟨b1,b2,b3,b4,b5⟩:=hg;have h6:=R6SameR_spec m.p wa wa wa b5;obtain⟨ep,opn,⟨q1,q2,q3,q4,q5,q6⟩⟩:=m;simp only at ho h6;refine pcall0 200 (fn:=f115) func115 rfl (by simp[ntmps115]) zB zB λhs=>?_;refine zV ?_;(try simp(maxSteps:=2000000) (disch:=omega) only[go_sem,simprocAttr,if_pos,if_neg,w64,beqT,beqF,bneT,bneF,qag,qaf,decide_eq_true,decide_eq_false,beq_self_eq_true]);refine zY h6 ?_;(refine walk_trim [2,3,5] trivial zL ?_;((try refine zW ?_);(try with_reducible exact Ka)));refine qac 200 200 (λi:Nat=>i<=opn.length)
  (λi=>⟨46, [(2, .ptr 0 0 0 0),(3, .ptr 1 0 0 0),(5,sci .i64 i)], [],2, [(1, .arr 8 0 [[sci .i64 ep,lBo opn,sci .i64 q1,sci .i64 q2,sci .i64 q3,lI q4,lMs q5,lLs q6]]),(0, .arr 8 0 [[sci .i64 ep,lBo opn,sci .i64 q1,sci .i64 q2,sci .i64 q3,lI q4,lMs q5,lLs q6]])]⟩) (λi=>opn.length - i) (0) [] ?_ ?_ ?_
 .simp
 .constructor<;>(try simp(maxSteps:=2000000) (disch:=omega) only[go_sem,simprocAttr,if_pos,if_neg,w64,beqT,beqF,bneT,bneF,qag,qaf,decide_eq_true,decide_eq_false,Kl,Kb,Ki])
 .rintro i hi;refine zV ?_;by_cases li:i < opn.length
  .cases hb:opn[i];all_goals
    (try simp(maxSteps:=2000000) (disch:=omega) only[go_sem,simprocAttr,if_pos,if_neg,w64,beqT,beqF,bneT,bneF,qag,qaf,decide_eq_true,decide_eq_false,eB,hb]);(refine zM [2,3,5] ?_;refine zI [U,U,U,U,U,U,U,U,U,U,U] ?_);(try simp(maxSteps:=2000000) (disch:=omega) only[go_sem,simprocAttr,if_pos,if_neg,w64,beqT,beqF,bneT,bneF,qag,qaf,decide_eq_true,decide_eq_false,eB,hb]);refine⟨i+1, [],wd,?_,?_⟩
    ·(try simp only[]);omega
    .constructor<;>(try simp(maxSteps:=2000000) (disch:=omega) only[go_sem,simprocAttr,if_pos,if_neg,w64,beqT,beqF,bneT,bneF,qag,qaf,decide_eq_true,decide_eq_false,Ki])
  .obtain rfl:i=opn.length:=wa
   ((try refine zO ?_);(try with_reducible exact Ka))
structure gNo(x:No):Prop where
 h:gHs x.h
 m:gPc x.m.p
 o:x.m.opn.length<=1000000
 u:gPc x.u.p
 t:x.t.kids.length<=1000000
 g:x.got.length<=1000
 s:x.seen.length<=1000000
def qrT{α:Type}(a:α)(l m:List α):(a::l).append m=a::l.append m:=rfl
def qs7{α:Type}(m:List α):([]:List α).append m=m:=rfl
def qd2(x:No)(hg:gNo x):Pure prog 43 [lNo x,lNo x] (scb Y):=by
 obtain⟨gh,gm,go,gu,gt,gg,gs⟩:=hg;have s9:=qgw x.h gh;have s10:=qkU x.m gm go;obtain⟨b1,b2,b3,b4,b5⟩:=gu;have s6:=R6SameR_spec x.u.p wa wa wa b5;have s12:=Same_specH x.t.epoch x.t.up x.t.wait x.t.kids x.t.epoch x.t.up x.t.wait x.t.kids;have sA:=qib x.got x.got;rw[qbg.2 rfl] at sA;have sI:=qcW x.seen gs;simp only[beq_self_eq_true,Bool.and_self,Bool.and_true] at s12;obtain⟨⟨h1,h2,h3,h4,h5⟩,⟨m1,m2,⟨m3,m4,m5,m6,m7,m8⟩⟩,⟨u1,⟨u2,u3,u4,u5,u6,u7⟩⟩,⟨t1,t2,t3,t4⟩,got,heard,told,seen⟩:=x;simp only at s9 s10 s6 s12 sA sI;refine pcall0 200 (fn:=f43) func43 rfl (by simp[ntmps43]) zB zB λhs=>?_;simp only[qrT,qs7];refine zV ?_;(refine zG ?_;refine qaa (s9) zB ?_);refine zV ?_;(refine zG ?_;refine qaa (s10) zB ?_);(try simp(maxSteps:=2000000) (disch:=omega) only[go_sem,simprocAttr,if_pos,if_neg,w64,beqT,beqF,bneT,bneF,qag,qaf,decide_eq_true,decide_eq_false,beq_self_eq_true]);(refine zG ?_;refine qaa (s6) zB ?_);refine zV ?_;(refine zG ?_;refine qaa (s12) zB ?_);refine zV ?_;(refine zG ?_;refine qaa (sA) zB ?_);(try simp(maxSteps:=2000000) (disch:=omega) only[go_sem,simprocAttr,if_pos,if_neg,w64,beqT,beqF,bneT,bneF,qag,qaf,decide_eq_true,decide_eq_false,beq_self_eq_true]);(refine zG ?_;refine qaa (sI) zB ?_);(try simp(maxSteps:=2000000) (disch:=omega) only[go_sem,simprocAttr,if_pos,if_neg,w64,beqT,beqF,bneT,bneF,qag,qaf,decide_eq_true,decide_eq_false,beq_self_eq_true])
end Go.Proofs.NO
namespace Go.Idl
variable{P:Program}{h0:IH}
def qs3{c dst t ty len parts d e g zs sz cs r S Q}
  (w:qao c S.s ⟨dst, .buildSlice t len ⟨parts⟩,ty,d,e,g⟩=V Y) (l:rparts (ev S.s) parts=V zs) (A:flit P t len zs=V (sz,cs)) (N:dOk S.n dst=Y)
  (h:IOps P h0 c r ⟨S.n,putS dst (.ref S.nx 0 0 len) S.s,S.d,S.nx+1,(S.nx, .arr sz 0 (qaM sz len cs))::S.l⟩ Q):
  IOps P h0 c (⟨dst, .buildSlice t len ⟨parts⟩,ty,d,e,g⟩::r) S Q:=by
 intro M0 m M a B f C i;have n:=qpz (o:=⟨dst, .buildSlice t len ⟨parts⟩,ty,d,e,g⟩) (nx:=S.nx) rfl l A;have j:({x:= .ref S.nx 0 0 len,F:= [S.nx],W:= [(S.nx, .arr sz 0 (qaM sz len cs))]}:FR).fits (look (S.l++h0.m)) S.nx:=⟨wc, .inr ⟨rfl,_,rfl⟩⟩;refine wpListW_step (i.mem (List.mem_cons_self ..)) λK D=>?_;rw[if_pos (qa9 f w)];refine n M a f.heap.rel (λp E=>by grind) (λb k=>?_) (λy _ z l=>qaI f.slot l) K _ λv G u q H I=>?_
 .simp[List.mem_cons,List.not_mem_nil,or_false] at k;subst k;exact λk=>Nat.lt_irrefl _ (f.heap.A _ k)
 .have s:qaE S dst=Y:=by cases O:dst<;>simp_all[dOk,qaE]
  have L:IOps P h0 c r (S.put dst (.ref S.nx 0 0 len) (S.nx+ [S.nx].length) [(S.nx, .arr sz 0 (qaM sz len cs))].reverse) Q:=by rw[qa1];grind
  refine D _ _ (L M0 m G _ (B.trans u) (f.step u s I ?_) C i.tl);have:=f.heap.upd q H (S.nx+1) (qfS f.heap j);simp_all
def qgj{n a dst t ty len parts p b g zs sz cs r k N s d nx l Q}
  (c:qao a s ⟨dst, .buildSlice t len ⟨parts⟩,ty,p,b,g⟩=V Y) (e:rparts (ev s) parts=V zs) (f:flit P t len zs=V (sz,cs)) (i:dOk N dst=Y)
  (h:vc P h0 Q n (.ops a r::k) ⟨N,putS dst (.ref nx 0 0 len) s,d,nx+1,(nx, .arr sz 0 (qaM sz len cs))::l⟩):
  IRun P h0 (.ops a (⟨dst, .buildSlice t len ⟨parts⟩,ty,p,b,g⟩::r)::k) ⟨N,s,d,nx,l⟩ Q:=
 qs3 (S:=⟨N,s,d,nx,l⟩) c e f i (vc_sound Q n _ _ h)
end Go.Idl
