/- Facts leant on. -/
import Derived.Test.YtfhhdgkhajkapaaGreatNzP2
import Derived.Test.YtfhhdgkhajkapaaGreatNPC
set_option linter.all false
open True renaming intro->Ka
open Int renaming natCast_zero->Kb
open List renaming append_assoc->Kc,take_of_length_le->Kd,getElem?_eq_getElem->Ke,drop_length->Kf
/- What a node may tell: the program's answer. -/
namespace Go.Proofs.NO
open Go Go.Idl Go.Proofs Go.Proofs.Tryz
set_option maxHeartbeats 0
set_option maxRecDepth 100000
def MsgP(last:Int)(x:Int × Int):Prop:=last < x.1/\x.1<=500/\0<=x.2/\x.2<=3
def RisP:Int->List (Int × Int)->Prop
 | _, []=>True
 | last,x::r=>MsgP last x/\RisP x.1 r
def qci(l:List Int):Prop:= ∀(j:Nat) (x:Int),j < l.length->l[j]? =some x->0<=x/\x<=3
def ToldP(p:Pc):Prop:=0<=p.steps/\p.steps<=2147483647/\p.sent.length<=5/\p.inn.length<=5/\p.out.length<=5/\(∀(j:Nat) (x:Int),j < p.sent.length->p.sent[j]? =some x->0<=x/\x<=500)/\(∀(j:Nat) (l:List (Int × Int)),j < p.inn.length->p.inn[j]? =some l->RisP 0 l)/\ ∀(j:Nat) (l:List Int),j < p.out.length->p.out[j]? =some l->l.length<=500/\qci l
def qaA(p:Pc):Prop:=(0<=p.node/\p.node<=5)/\(0<=p.state/\p.state<=7)/\ToldP p
def qbY(n m:Int):Pure prog 224 [sci .i64 n,sci .i64 m] (scb (tB (0<=n/\n<=m))):=by
 refine zAb func224 λhs=>?_;by_cases h1:0<=n
 .by_cases h2:n<=m
  .have e:tB (0<=n/\n<=m)=true:=qap ⟨h1,h2⟩;exact zy e
  .have e:tB (0<=n/\n<=m)=false:=qah λq=>h2 q.2
   exact zy e
 .have e:tB (0<=n/\n<=m)=false:=qah λq=>h1 q.1
  exact zy e
def qmI(n:Int):Pure prog 226 [sci .i64 n] (scb (!tB (0<=n/\n<=3))):=by
 refine zAb func226 λhs=>?_;(refine zG ?_;refine qaa (qbY n 3) zB ?_);exact zU
def qm6(l:List (Int × Int)):Pure prog 225 [lII l] (scb (tB (RisP 0 l))):=by
 refine zAa func225 λhs=>?_;simp only[go_sem,simprocAttr,maxLen] at hs;obtain⟨ha, -⟩:=hs;refine zV ?_;refine zM [3,6,7,8] ?_;refine walk_loop 200 200 (λs:Nat × Int=>s.1<=l.length/\(RisP s.2 (l.drop s.1)↔RisP 0 l)) (λs=>⟨30, [(3,sci .i64 s.2),(6,lII l),(7,sci .i64 l.length),(8,sci .i64 s.1)], [],0, []⟩) (λs=>l.length - s.1) (0,0) ?_ ?_ ?_
 .simp
 .exact zc @Kb
 .rintro⟨i,last⟩ ⟨h1,h2⟩;simp only at h1 h2;refine zV ?_;by_cases hl:i < l.length
  .have e0:l.drop i=l[i]::l.drop (i+1):=List.drop_eq_getElem_cons hl;rw[e0] at h2;(try simp(disch:=omega) only[go_sem,simprocAttr,zD,zE,eII]);generalize l[i]=x at *;obtain⟨sq,lt⟩:=x;have bad: ¬MsgP last (sq,lt)->tB (RisP 0 l)=false:=λq=>qah λh=>q (h2.2 h).1
   by_cases g1:sq<=last
   .have e:=bad λq=>by have:=q.1;simp only at this;omega
    exact zy (zQ g1 e)
   by_cases g2:500 < sq
   .have e:=bad λq=>by have:=q.2.1;simp only at this;omega
    exact zy (zQ g1 (zQ g2 e))
   refine zS (zQ g1 g2) ?_;(refine zG ?_;refine qaa (qbY lt 3) zB ?_;refine zV ?_);by_cases g3:0<=lt/\lt<=3
   .have e:tB (0<=lt/\lt<=3)=true:=qap g3;refine zS e ?_;refine⟨(i+1,sq),⟨hl,⟨λq=>h2.1 ⟨⟨wc,wc,g3⟩,q⟩,λq=>(h2.2 q).2⟩⟩,wc,?_⟩;constructor<;>exact zU
   .have e:tB (0<=lt/\lt<=3)=false:=qah g3;have e2:=bad λq=>g3 q.2.2
    exact zy (zQ e e2)
  .obtain rfl:i=l.length:=wa
   have e:tB (RisP 0 l)=true:=qap (h2.1 (by rw[Kf];trivial));exact zy e
abbrev fR1:IV:= .p (.sc (.func (.func 226) #[] #[]))
def qpH(l:List Int)(hk:l.length<=1000000):Pure prog 218 [lI l,fR1]
  (sci .i64 (qbc (λx=>!tB (0<=x/\x<=3)) 0 l)):=by
 refine zAb func218 λhs=>?_;refine qac 200 200 (λi:Nat=>i<=l.length/\qbc (λx=>!tB (0<=x/\x<=3)) i (l.drop i)=qbc (λx=>!tB (0<=x/\x<=3)) 0 l)
  (λi=>⟨19, [(0,lI l),(1,fR1),(7,sci .i64 l.length),(8,sci .i64 i)], [],0, []⟩) (λi=>l.length - i) (0) [] ?_ ?_ ?_
 .simp
 .exact zc (zQ @Kb (zQ @Kd.{0} @Kc.{0}))
 .rintro i hi;obtain⟨hi,hinvi⟩:=hi;refine zV ?_;by_cases li:i < l.length
  .rw[qaU li,qbc] at hinvi;(try simp(disch:=omega) only[go_sem,simprocAttr,zD,zE,eI]);(refine zG ?_;refine qaa (qmI l[i]) zB ?_;refine zV ?_);cases e:tB (0<=l[i]/\l[i]<=3)
   .simp only[e,Bool.not_false,if_true] at hinvi;exact zy hinvi.symm
   .simp only[e,Bool.not_true,Bool.false_eq_true,if_false] at hinvi;refine zP ?_;refine⟨i+1, [],⟨wd,hinvi⟩,?_,?_⟩
    ·(try simp only[]);omega
    .exact zc @Kc.{0}
  .obtain rfl:i=l.length:=wa
   rw[Kf] at hinvi;(try simp(disch:=omega) only[go_sem,simprocAttr,zD,zE,<-hinvi,qbc])
def qpz(l:List Int)(hk:l.length<=1000000):Pure prog 148 [lI l,fR1] (scb (!tB (qci l))):=by
 have e:decide (0<=qbc (λx=>!tB (0<=x/\x<=3)) 0 l)= !tB (qci l):=by
  rw[qmb,<-qgL];refine qcA ?_;rw[qdR];constructor
  .rintro⟨x,hx,h⟩ q;obtain⟨j,hj,rfl⟩:=List.getElem_of_mem hx;have:=q j _ hj (Ke hj);rw[qap this] at h;cases h
  .intro h;refine Classical.byContradiction λq=>h λj x _ hx=>?_;have hm:x∈l:=List.mem_of_getElem? hx;refine Classical.byContradiction λq2=>q ⟨x,hm,?_⟩;rw[qah q2];rfl
 refine zAb func148 λhs=>?_;(refine zG ?_;refine qaa (qpH l hk) zB ?_);exact zy e
def qm3(h:Pc)(hg:gPc h):Pure prog 168 [lPc h] (scb (tB (qaA h))):=by
 obtain⟨node,state,steps,sent,inn,out⟩:=h;obtain⟨b1,b2,b3,b4,b5⟩:=hg;simp only at b1 b2 b3 b4 b5;have bad: ∀ {q:Prop},(qaA ⟨node,state,steps,sent,inn,out⟩->q)-> ¬q->tB (qaA ⟨node,state,steps,sent,inn,out⟩)=false:=λf g=>qah λh=>g (f h)
 refine zAb func168 λhs=>?_;(refine zG ?_;refine qaa (qbY node 5) zB ?_;refine zV ?_);by_cases hn:0<=node/\node<=5
 rotate_left
 .have en:tB (0<=node/\node<=5)=false:=qah hn;have e:=bad (λq=>q.1) hn;exact zy (zQ en e)
 have en:tB (0<=node/\node<=5)=true:=qap hn;refine zS en ?_;(refine zG ?_;refine qaa (qbY state 7) zB ?_;refine zV ?_);by_cases hs:0<=state/\state<=7
 rotate_left
 .have es:tB (0<=state/\state<=7)=false:=qah hs;have e:=bad (λq=>q.2.1) hs;exact zy (zQ es e)
 have es:tB (0<=state/\state<=7)=true:=qap hs;refine zS es ?_;(refine zG ?_;refine qaa (qbY steps 2147483647) zB ?_;refine zV ?_);by_cases h1:0<=steps/\steps<=2147483647
 .have e1:tB (0<=steps/\steps<=2147483647)=true:=qap h1;by_cases h0:5 < sent.length
  .have e:=bad (λq=>q.2.2.2.2.1) wc;exact zy (zQ e1 e)
  by_cases h2:5 < inn.length
  .have e:=bad (λq=>q.2.2.2.2.2.1) wc;exact zy (zQ e1 e)
  by_cases h3:5 < out.length
  .have e:=bad (λq=>q.2.2.2.2.2.2.1) wc;exact zy (zQ e1 e)
  refine zS e1 ?_;refine zM [1,40,41,42] ?_;refine qac 200 200 (λi:Nat=>i<=sent.length/\ ∀(k:Nat) (x:Int),k < i->sent[k]? =some x->0<=x/\x<=500)
   (λi=>⟨77, [(1, .ptr 0 0 0 0),(40,lI sent),(41,sci .i64 sent.length),(42,sci .i64 i)], [],1, [(0, .arr 6 0 [[sci .i64 node,sci .i64 state,sci .i64 steps,lI sent,lMs inn,lLs out]])]⟩) (λi=>sent.length - i) (0) [] ?_ ?_ ?_
  .simp
  .exact zc (zQ @Kb (zQ @Kd.{0} @Kc.{0}))
  .rintro i hi;obtain⟨hi,hinvi⟩:=hi;refine zV ?_;by_cases li:i < sent.length
   .have sn:=qaV li hinvi;have bd: ¬(0<=sent[i]/\sent[i]<=500)->tB (qaA ⟨node,state,steps,sent,inn,out⟩)=false:=λq=>qah λh=>q (h.2.2.2.2.2.2.2.1 i _ li (Ke li))
    (try simp(maxSteps:=2000000) (disch:=omega) only[go_sem,simprocAttr,zD,zE,eI]);(refine zG ?_;refine qaa (qbY sent[i] 500) zB ?_;refine zV ?_);by_cases g:0<=sent[i]/\sent[i]<=500
    .have e:=qap g;refine zS e ?_;refine⟨i+1, [],⟨li,sn g⟩,wa,?_⟩;constructor<;>exact zU
    .have e:=qah g;have e2:=bd g;exact zy (zQ e e2)
   .obtain rfl:i=sent.length:=wa
    refine zP ?_;refine zM [1,51,52,53] ?_;refine qac 200 200 (λj:Nat=>j<=inn.length/\ ∀(k:Nat) (l:List (Int × Int)),k < j->inn[k]? =some l->RisP 0 l)
     (λj=>⟨77, [(1, .ptr 0 0 0 0),(51,lMs inn),(52,sci .i64 inn.length),(53,sci .i64 j)], [],1, [(0, .arr 6 0 [[sci .i64 node,sci .i64 state,sci .i64 steps,lI sent,lMs inn,lLs out]])]⟩) (λj=>inn.length - j) (0) [] ?_ ?_ ?_
    .simp
    .exact zc (zQ @Kb (zQ @Kd.{0} @Kc.{0}))
    .rintro j hj;obtain⟨hj,hinvj⟩:=hj;refine zV ?_;by_cases lj:j < inn.length
     .have sn:=qaV lj hinvj;have bd: ¬RisP 0 inn[j]->tB (qaA ⟨node,state,steps,sent,inn,out⟩)=false:=λq=>qah λh=>q (h.2.2.2.2.2.2.2.2.1 j _ lj (Ke lj))
      (try simp(maxSteps:=2000000) (disch:=omega) only[go_sem,simprocAttr,zD,zE,eMs]);(refine zG ?_;refine qaa (qm6 inn[j]) zB ?_;refine zV ?_);by_cases g:RisP 0 inn[j]
      .have e:=qap g;refine zS e ?_;refine⟨j+1, [],⟨lj,sn g⟩,wa,?_⟩;constructor<;>exact zU
      .have e:=qah g;have e2:=bd g;exact zy (zQ e e2)
     .obtain rfl:j=inn.length:=wa
      refine zP ?_;refine zM [7,62,63,64] ?_;refine qac 200 200 (λk:Nat=>k<=out.length/\ ∀(m:Nat) (l:List Int),m < k->out[m]? =some l->l.length<=500/\qci l)
       (λk=>⟨77, [(7,fR1),(62,lLs out),(63,sci .i64 out.length),(64,sci .i64 k)], [],1, [(0, .arr 6 0 [[sci .i64 node,sci .i64 state,sci .i64 steps,lI sent,lMs inn,lLs out]])]⟩) (λk=>out.length - k) (0) [] ?_ ?_ ?_
      .simp
      .exact zc (zQ @Kb (zQ @Kd.{0} @Kc.{0}))
      .rintro k hk;obtain⟨hk,hinvk⟩:=hk;refine zV ?_;by_cases lk:k < out.length
       .have sn:=qaV lk hinvk;have bd: ¬(out[k].length<=500/\qci out[k])->tB (qaA ⟨node,state,steps,sent,inn,out⟩)=false:=λq=>qah λh=>q (h.2.2.2.2.2.2.2.2.2 k _ lk (Ke lk))
        have ho:=b5 out[k] (List.getElem_mem lk);(try simp(maxSteps:=2000000) (disch:=omega) only[go_sem,simprocAttr,zD,zE,eLs]);generalize out[k]=x at *;by_cases g1:500 < x.length
        .have e2:=bd λq=>by have:=q.1;omega
         exact zy e2
        refine zP ?_;(refine zG ?_;refine qaa (qpz x ho) zB ?_;refine zV ?_);by_cases g:qci x
        .have e:=qap g;refine zS e ?_;refine⟨k+1, [],⟨lk,sn ⟨wa,g⟩⟩,wa,?_⟩;constructor<;>exact zU
        .have e:=qah g;have e2:=bd λq=>g q.2
         exact zy (zQ e e2)
       .obtain rfl:k=out.length:=wa
        have e:tB (qaA ⟨node,state,steps,sent,inn,out⟩)=true:=qap ⟨hn,hs,h1.1,h1.2,wc,wc,wc,hinvi,hinvj,hinvk⟩;exact zy e
 .have e1:tB (0<=steps/\steps<=2147483647)=false:=qah h1;have e:=bad (λq=>⟨q.2.2.1,q.2.2.2.1⟩) h1;exact zy (zQ e1 e)
end Go.Proofs.NO
