/- Facts leant on. -/
import Derived.Test.YtfhhdgkhajkapaaGreatNzP2
import Derived.Test.YtfhhdgkhajkapaaGreatNPB
set_option linter.all false
open True renaming intro->Ka
open Int renaming natCast_zero->Kb
open List renaming append_assoc->Kc,take_of_length_le->Kd,getElem?_eq_getElem->Ke,drop_length->Kf
/- What a node may tell: the program's answer. -/
namespace Go.Proofs.NO
open Go Go.Idl Go.Proofs Go.Proofs.Tryz
set_option maxHeartbeats 0
set_option maxRecDepth 100000
def MsgP(last:Int)(x:Int × Int):Prop:=last < x.1/\x.1<=500/\0<=x.2/\x.2<=3
def RisP:Int->List (Int × Int)->Prop
 | _, []=>True
 | last,x::r=>MsgP last x/\RisP x.1 r
def qcu(l:List Int):Prop:= ∀(j:Nat) (x:Int),j < l.length->l[j]? =some x->0<=x/\x<=3
def ToldP(p:Pc):Prop:=0<=p.steps/\p.steps<=2147483647/\p.sent.length<=5/\p.inn.length<=5/\p.out.length<=5/\(∀(j:Nat) (x:Int),j < p.sent.length->p.sent[j]? =some x->0<=x/\x<=500)/\(∀(j:Nat) (l:List (Int × Int)),j < p.inn.length->p.inn[j]? =some l->RisP 0 l)/\ ∀(j:Nat) (l:List Int),j < p.out.length->p.out[j]? =some l->l.length<=500/\qcu l
def qaD(p:Pc):Prop:=(0<=p.node/\p.node<=5)/\(0<=p.state/\p.state<=7)/\ToldP p
def qca(n m:Int):Pure prog 224 [sci .i64 n,sci .i64 m] (scb (tB (0<=n/\n<=m))):=by
 refine pcall0 200 (fn:=f224) func224 rfl (by simp[ntmps224]) zB zB λhs=>?_;refine zV ?_;by_cases h1:0<=n
 .by_cases h2:n<=m
  .have e:tB (0<=n/\n<=m)=true:=qaj ⟨h1,h2⟩;(try simp(disch:=omega) only[go_sem,simprocAttr,zD,zE,e])
  .have e:tB (0<=n/\n<=m)=false:=qah λq=>h2 q.2
   (try simp(disch:=omega) only[go_sem,simprocAttr,zD,zE,e])
 .have e:tB (0<=n/\n<=m)=false:=qah λq=>h1 q.1
  (try simp(disch:=omega) only[go_sem,simprocAttr,zD,zE,e])
def qoO(n:Int):Pure prog 226 [sci .i64 n] (scb (!tB (0<=n/\n<=3))):=by
 refine pcall0 200 (fn:=f226) func226 rfl (by simp[ntmps226]) zB zB λhs=>?_;refine zV ?_;(refine zG ?_;refine qaa (qca n 3) zB ?_);((try refine zO ?_);(try with_reducible exact Ka))
def qpd(l:List (Int × Int)):Pure prog 225 [lII l] (scb (tB (RisP 0 l))):=by
 refine pcall0 200 (fn:=f225) func225 rfl (by simp[ntmps225]) zB zB λhs=>?_;simp only[go_sem,simprocAttr,maxLen] at hs;obtain⟨ha, -⟩:=hs;refine zV ?_;(refine walk_trim [3,6,7,8] trivial zL ?_;((try refine zW ?_);(try with_reducible exact Ka)));refine walk_loop 200 200 (λs:Nat × Int=>s.1<=l.length/\(RisP s.2 (l.drop s.1)↔RisP 0 l)) (λs=>⟨30, [(3,sci .i64 s.2),(6,lII l),(7,sci .i64 l.length),(8,sci .i64 s.1)], [],0, []⟩) (λs=>l.length - s.1) (0,0) ?_ ?_ ?_
 .simp
 .constructor<;>(try simp(disch:=omega) only[go_sem,simprocAttr,zD,zE,Kb])
 .rintro⟨i,last⟩ ⟨h1,h2⟩;simp only at h1 h2;refine zV ?_;by_cases hl:i < l.length
  .have e0:l.drop i=l[i]::l.drop (i+1):=List.drop_eq_getElem_cons hl;rw[e0] at h2;(try simp(disch:=omega) only[go_sem,simprocAttr,zD,zE,eII]);generalize l[i]=x at *;obtain⟨sq,lt⟩:=x;have bad: ¬MsgP last (sq,lt)->tB (RisP 0 l)=false:=λq=>qah λh=>q (h2.2 h).1
   by_cases g1:sq<=last
   .have e:=bad λq=>by have:=q.1;simp only at this;omega
    (try simp(disch:=omega) only[go_sem,simprocAttr,zD,zE,g1,e])
   by_cases g2:500 < sq
   .have e:=bad λq=>by have:=q.2.1;simp only at this;omega
    (try simp(disch:=omega) only[go_sem,simprocAttr,zD,zE,g1,g2,e])
   refine zS (zQ g1 g2) ?_;(refine zG ?_;refine qaa (qca lt 3) zB ?_;refine zV ?_);by_cases g3:0<=lt/\lt<=3
   .have e:tB (0<=lt/\lt<=3)=true:=qaj g3;refine zS e ?_;refine⟨(i+1,sq),⟨hl,⟨λq=>h2.1 ⟨⟨we,we,g3⟩,q⟩,λq=>(h2.2 q).2⟩⟩,we,?_⟩;constructor<;>((try refine zO ?_);(try with_reducible exact Ka))
   .have e:tB (0<=lt/\lt<=3)=false:=qah g3;have e2:=bad λq=>g3 q.2.2
    (try simp(disch:=omega) only[go_sem,simprocAttr,zD,zE,e,e2])
  .obtain rfl:i=l.length:=wa
   have e:tB (RisP 0 l)=true:=qaj (h2.1 (by rw[Kf];trivial));(try simp(disch:=omega) only[go_sem,simprocAttr,zD,zE,e])
abbrev fR1:IV:= .p (.sc (.func (.func 226) #[] #[]))
def qrP(l:List Int)(hk:l.length<=1000000):Pure prog 218 [lI l,fR1]
  (sci .i64 (qbc (λx=>!tB (0<=x/\x<=3)) 0 l)):=by
 refine pcall0 200 (fn:=f218) func218 rfl (by simp[ntmps218]) zB zB λhs=>?_;refine zV ?_;refine qac 200 200 (λi:Nat=>i<=l.length/\qbc (λx=>!tB (0<=x/\x<=3)) i (l.drop i)=qbc (λx=>!tB (0<=x/\x<=3)) 0 l)
  (λi=>⟨19, [(0,lI l),(1,fR1),(7,sci .i64 l.length),(8,sci .i64 i)], [],0, []⟩) (λi=>l.length - i) (0) [] ?_ ?_ ?_
 .simp
 .constructor<;>(try simp(disch:=omega) only[go_sem,simprocAttr,zD,zE,Kb,Kd,Kc])
 .rintro i hi;obtain⟨hi,hinvi⟩:=hi;refine zV ?_;by_cases li:i < l.length
  .rw[qaZ li,qbc] at hinvi;(try simp(disch:=omega) only[go_sem,simprocAttr,zD,zE,eI]);(refine zG ?_;refine qaa (qoO l[i]) zB ?_;refine zV ?_);cases e:tB (0<=l[i]/\l[i]<=3)
   .simp only[e,Bool.not_false,if_true] at hinvi;(try simp(disch:=omega) only[go_sem,simprocAttr,zD,zE,<-hinvi])
   .simp only[e,Bool.not_true,Bool.false_eq_true,if_false] at hinvi;refine zP ?_;refine⟨i+1, [],⟨wd,hinvi⟩,?_,?_⟩
    ·(try simp only[]);omega
    .constructor<;>(try simp(disch:=omega) only[go_sem,simprocAttr,zD,zE,Kc])
  .obtain rfl:i=l.length:=wa
   rw[Kf] at hinvi;(try simp(disch:=omega) only[go_sem,simprocAttr,zD,zE,<-hinvi,qbc])
def qrH(l:List Int)(hk:l.length<=1000000):Pure prog 148 [lI l,fR1] (scb (!tB (qcu l))):=by
 have e:decide (0<=qbc (λx=>!tB (0<=x/\x<=3)) 0 l)= !tB (qcu l):=by
  rw[qnC,<-qho];refine qcK ?_;rw[qd7];constructor
  .rintro⟨x,hx,h⟩ q;obtain⟨j,hj,rfl⟩:=List.getElem_of_mem hx;have:=q j _ hj (Ke hj);rw[qaj this] at h;cases h
  .intro h;refine Classical.byContradiction λq=>h λj x _ hx=>?_;have hm:x∈l:=List.mem_of_getElem? hx;refine Classical.byContradiction λq2=>q ⟨x,hm,?_⟩;rw[qah q2];rfl
 refine pcall0 200 (fn:=f148) func148 rfl (by simp[ntmps148]) zB zB λhs=>?_;refine zV ?_;(refine zG ?_;refine qaa (qrP l hk) zB ?_);(try simp(disch:=omega) only[go_sem,simprocAttr,zD,zE,e])
def qo9(h:Pc)(hg:gPc h):Pure prog 168 [lPc h] (scb (tB (qaD h))):=by
 obtain⟨node,state,steps,sent,inn,out⟩:=h;obtain⟨b1,b2,b3,b4,b5⟩:=hg;simp only at b1 b2 b3 b4 b5;have bad: ∀ {q:Prop},(qaD ⟨node,state,steps,sent,inn,out⟩->q)-> ¬q->tB (qaD ⟨node,state,steps,sent,inn,out⟩)=false:=λf g=>qah λh=>g (f h)
 refine pcall0 200 (fn:=f168) func168 rfl (by simp[ntmps168]) zB zB λhs=>?_;refine zV ?_;(refine zG ?_;refine qaa (qca node 5) zB ?_;refine zV ?_);by_cases hn:0<=node/\node<=5
 rotate_left
 .have en:tB (0<=node/\node<=5)=false:=qah hn;have e:=bad (λq=>q.1) hn;(try simp(maxSteps:=2000000) (disch:=omega) only[go_sem,simprocAttr,zD,zE,en,e])
 have en:tB (0<=node/\node<=5)=true:=qaj hn;refine zS en ?_;(refine zG ?_;refine qaa (qca state 7) zB ?_;refine zV ?_);by_cases hs:0<=state/\state<=7
 rotate_left
 .have es:tB (0<=state/\state<=7)=false:=qah hs;have e:=bad (λq=>q.2.1) hs;(try simp(maxSteps:=2000000) (disch:=omega) only[go_sem,simprocAttr,zD,zE,es,e])
 have es:tB (0<=state/\state<=7)=true:=qaj hs;refine zS es ?_;(refine zG ?_;refine qaa (qca steps 2147483647) zB ?_;refine zV ?_);by_cases h1:0<=steps/\steps<=2147483647
 .have e1:tB (0<=steps/\steps<=2147483647)=true:=qaj h1;by_cases h0:5 < sent.length
  .have e:=bad (λq=>q.2.2.2.2.1) we;(try simp(maxSteps:=2000000) (disch:=omega) only[go_sem,simprocAttr,zD,zE,e1,e])
  by_cases h2:5 < inn.length
  .have e:=bad (λq=>q.2.2.2.2.2.1) we;(try simp(maxSteps:=2000000) (disch:=omega) only[go_sem,simprocAttr,zD,zE,e1,e])
  by_cases h3:5 < out.length
  .have e:=bad (λq=>q.2.2.2.2.2.2.1) we;(try simp(maxSteps:=2000000) (disch:=omega) only[go_sem,simprocAttr,zD,zE,e1,e])
  refine zS e1 ?_;(refine walk_trim [1,40,41,42] trivial zL ?_;((try refine zW ?_);(try with_reducible exact Ka)));refine qac 200 200 (λi:Nat=>i<=sent.length/\ ∀(k:Nat) (x:Int),k < i->sent[k]? =some x->0<=x/\x<=500)
   (λi=>⟨77, [(1, .ptr 0 0 0 0),(40,lI sent),(41,sci .i64 sent.length),(42,sci .i64 i)], [],1, [(0, .arr 6 0 [[sci .i64 node,sci .i64 state,sci .i64 steps,lI sent,lMs inn,lLs out]])]⟩) (λi=>sent.length - i) (0) [] ?_ ?_ ?_
  .simp
  .constructor<;>(try simp(maxSteps:=2000000) (disch:=omega) only[go_sem,simprocAttr,zD,zE,Kb,Kd,Kc])
  .rintro i hi;obtain⟨hi,hinvi⟩:=hi;refine zV ?_;by_cases li:i < sent.length
   .have sn:=qa0 li hinvi;have bd: ¬(0<=sent[i]/\sent[i]<=500)->tB (qaD ⟨node,state,steps,sent,inn,out⟩)=false:=λq=>qah λh=>q (h.2.2.2.2.2.2.2.1 i _ li (Ke li))
    (try simp(maxSteps:=2000000) (disch:=omega) only[go_sem,simprocAttr,zD,zE,eI]);(refine zG ?_;refine qaa (qca sent[i] 500) zB ?_;refine zV ?_);by_cases g:0<=sent[i]/\sent[i]<=500
    .have e:=qaj g;refine zS e ?_;refine⟨i+1, [],⟨li,sn g⟩,wa,?_⟩;constructor<;>((try refine zO ?_);(try with_reducible exact Ka))
    .have e:=qah g;have e2:=bd g;(try simp(maxSteps:=2000000) (disch:=omega) only[go_sem,simprocAttr,zD,zE,e,e2])
   .obtain rfl:i=sent.length:=wa
    refine zP ?_;(refine walk_trim [1,51,52,53] trivial zL ?_;((try refine zW ?_);(try with_reducible exact Ka)));refine qac 200 200 (λj:Nat=>j<=inn.length/\ ∀(k:Nat) (l:List (Int × Int)),k < j->inn[k]? =some l->RisP 0 l)
     (λj=>⟨77, [(1, .ptr 0 0 0 0),(51,lMs inn),(52,sci .i64 inn.length),(53,sci .i64 j)], [],1, [(0, .arr 6 0 [[sci .i64 node,sci .i64 state,sci .i64 steps,lI sent,lMs inn,lLs out]])]⟩) (λj=>inn.length - j) (0) [] ?_ ?_ ?_
    .simp
    .constructor<;>(try simp(maxSteps:=2000000) (disch:=omega) only[go_sem,simprocAttr,zD,zE,Kb,Kd,Kc])
    .rintro j hj;obtain⟨hj,hinvj⟩:=hj;refine zV ?_;by_cases lj:j < inn.length
     .have sn:=qa0 lj hinvj;have bd: ¬RisP 0 inn[j]->tB (qaD ⟨node,state,steps,sent,inn,out⟩)=false:=λq=>qah λh=>q (h.2.2.2.2.2.2.2.2.1 j _ lj (Ke lj))
      (try simp(maxSteps:=2000000) (disch:=omega) only[go_sem,simprocAttr,zD,zE,eMs]);(refine zG ?_;refine qaa (qpd inn[j]) zB ?_;refine zV ?_);by_cases g:RisP 0 inn[j]
      .have e:=qaj g;refine zS e ?_;refine⟨j+1, [],⟨lj,sn g⟩,wa,?_⟩;constructor<;>((try refine zO ?_);(try with_reducible exact Ka))
      .have e:=qah g;have e2:=bd g;(try simp(maxSteps:=2000000) (disch:=omega) only[go_sem,simprocAttr,zD,zE,e,e2])
     .obtain rfl:j=inn.length:=wa
      refine zP ?_;(refine walk_trim [7,62,63,64] trivial zL ?_;((try refine zW ?_);(try with_reducible exact Ka)));refine qac 200 200 (λk:Nat=>k<=out.length/\ ∀(m:Nat) (l:List Int),m < k->out[m]? =some l->l.length<=500/\qcu l)
       (λk=>⟨77, [(7,fR1),(62,lLs out),(63,sci .i64 out.length),(64,sci .i64 k)], [],1, [(0, .arr 6 0 [[sci .i64 node,sci .i64 state,sci .i64 steps,lI sent,lMs inn,lLs out]])]⟩) (λk=>out.length - k) (0) [] ?_ ?_ ?_
      .simp
      .constructor<;>(try simp(maxSteps:=2000000) (disch:=omega) only[go_sem,simprocAttr,zD,zE,Kb,Kd,Kc])
      .rintro k hk;obtain⟨hk,hinvk⟩:=hk;refine zV ?_;by_cases lk:k < out.length
       .have sn:=qa0 lk hinvk;have bd: ¬(out[k].length<=500/\qcu out[k])->tB (qaD ⟨node,state,steps,sent,inn,out⟩)=false:=λq=>qah λh=>q (h.2.2.2.2.2.2.2.2.2 k _ lk (Ke lk))
        have ho:=b5 out[k] (List.getElem_mem lk);(try simp(maxSteps:=2000000) (disch:=omega) only[go_sem,simprocAttr,zD,zE,eLs]);generalize out[k]=x at *;by_cases g1:500 < x.length
        .have e2:=bd λq=>by have:=q.1;omega
         (try simp(maxSteps:=2000000) (disch:=omega) only[go_sem,simprocAttr,zD,zE,e2])
        refine zP ?_;(refine zG ?_;refine qaa (qrH x ho) zB ?_;refine zV ?_);by_cases g:qcu x
        .have e:=qaj g;refine zS e ?_;refine⟨k+1, [],⟨lk,sn ⟨wa,g⟩⟩,wa,?_⟩;constructor<;>((try refine zO ?_);(try with_reducible exact Ka))
        .have e:=qah g;have e2:=bd λq=>g q.2
         (try simp(maxSteps:=2000000) (disch:=omega) only[go_sem,simprocAttr,zD,zE,e,e2])
       .obtain rfl:k=out.length:=wa
        have e:tB (qaD ⟨node,state,steps,sent,inn,out⟩)=true:=qaj ⟨hn,hs,h1.1,h1.2,we,we,we,hinvi,hinvj,hinvk⟩;(try simp(maxSteps:=2000000) (disch:=omega) only[go_sem,simprocAttr,zD,zE,e])
 .have e1:tB (0<=steps/\steps<=2147483647)=false:=qah h1;have e:=bad (λq=>⟨q.2.2.1,q.2.2.2.1⟩) h1;(try simp(maxSteps:=2000000) (disch:=omega) only[go_sem,simprocAttr,zD,zE,e1,e])
end Go.Proofs.NO
