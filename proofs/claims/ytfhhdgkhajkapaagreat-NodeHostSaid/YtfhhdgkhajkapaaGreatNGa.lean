/- Facts leant on. -/
import Derived.Test.YtfhhdgkhajkapaaGreatNQB
import Derived.Test.YtfhhdgkhajkapaaGreatNPC
set_option linter.all false
open True renaming intro->Ka
open Int renaming natCast_zero->Kb
open List renaming take_of_length_le->Kc,append_assoc->Kd,getElem?_eq_getElem->Ke,drop_length->Kf,getElem_mem->Kg
/- What a node may tell: the document's answer. -/
namespace Go.Proofs.NO
open Go Go.Idl Go.Proofs Go.Proofs.Tryz
set_option maxHeartbeats 0
set_option maxRecDepth 100000
def qk0(h:Pc)(hg:gPc h):Pure prog 113 [lPc h] (scb (tB (qaA h))):=by
 obtain⟨node,state,steps,sent,inn,out⟩:=h;obtain⟨b1,b2,b3,b4,b5⟩:=hg;simp only at b1 b2 b3 b4 b5;have bad: ∀ {q:Prop},(qaA ⟨node,state,steps,sent,inn,out⟩->q)-> ¬q->tB (qaA ⟨node,state,steps,sent,inn,out⟩)=false:=λf g=>qah λh=>g (f h)
 refine zAb func113 λhs=>?_;by_cases n0:node < 0
 .have e:=bad (λq=>q.1) wc;exact zy e
 by_cases n1:5 < node
 .have e:=bad (λq=>q.1) wc;exact zy e
 by_cases s0:state < 0
 .have e:=bad (λq=>q.2.1) wc;exact zy e
 by_cases s1:7 < state
 .have e:=bad (λq=>q.2.1) wc;exact zy e
 by_cases h0:steps < 0
 .have e:=bad (λq=>q.2.2.1) wc;exact zy e
 by_cases h1:2147483647 < steps
 .have e:=bad (λq=>q.2.2.2.1) wc;exact zy e
 by_cases h00:5 < sent.length
 .have e:=bad (λq=>q.2.2.2.2.1) wc;exact zy e
 by_cases h2:5 < inn.length
 .have e:=bad (λq=>q.2.2.2.2.2.1) wc;exact zy e
 by_cases h3:5 < out.length
 .have e:=bad (λq=>q.2.2.2.2.2.2.1) wc;exact zy e
 refine zP ?_;refine zM [1,3] ?_;refine qac 200 200 (λi:Nat=>i<=sent.length/\ ∀(k:Nat) (x:Int),k < i->sent[k]? =some x->0<=x/\x<=500)
  (λi=>⟨167, [(1, .ptr 0 0 0 0),(3,sci .i64 i)], [],1, [(0, .arr 6 0 [[sci .i64 node,sci .i64 state,sci .i64 steps,lI sent,lMs inn,lLs out]])]⟩) (λi=>sent.length - i) (0) [] ?_ ?_ ?_
 .simp
 .exact zc (zQ @Kb (zQ @Kc.{0} @Kd.{0}))
 .rintro i hi;obtain⟨hi,hinvi⟩:=hi;refine zV ?_;by_cases li:i < sent.length
  .have sn:=qaV li hinvi;have bd: ¬(0<=sent[i]/\sent[i]<=500)->tB (qaA ⟨node,state,steps,sent,inn,out⟩)=false:=λq=>qah λh=>q (h.2.2.2.2.2.2.2.1 i _ li (Ke li))
   generalize hy:sent[i]=y at *;by_cases g2:y < 0
   .have e2:=bd λq=>by have:=q.1;omega
    (try simp(maxSteps:=2000000) (disch:=omega) only[go_sem,simprocAttr,zD,zE,eI,hy,g2,e2])
   by_cases g3:500 < y
   .have e2:=bd λq=>by have:=q.2;omega
    (try simp(maxSteps:=2000000) (disch:=omega) only[go_sem,simprocAttr,zD,zE,eI,hy,g2,g3,e2])
   (try simp(maxSteps:=2000000) (disch:=omega) only[go_sem,simprocAttr,zD,zE,eI,hy,g2,g3]);refine⟨i+1, [],⟨li,sn ⟨wa,wa⟩⟩,wa,?_⟩;constructor<;>exact zU
  .obtain rfl:i=sent.length:=wa
   refine zP ?_;refine zM [1,4] ?_;refine qac 200 200 (λj:Nat=>j<=inn.length/\ ∀(k:Nat) (l:List (Int × Int)),k < j->inn[k]? =some l->RisP 0 l)
    (λj=>⟨167, [(1, .ptr 0 0 0 0),(4,sci .i64 j)], [],1, [(0, .arr 6 0 [[sci .i64 node,sci .i64 state,sci .i64 steps,lI sent,lMs inn,lLs out]])]⟩) (λj=>inn.length - j) (0) [] ?_ ?_ ?_
   .simp
   .exact zc (zQ @Kb (zQ @Kc.{0} @Kd.{0}))
   .rintro j hj;obtain⟨hj,hinvj⟩:=hj;refine zV ?_;by_cases lj:j < inn.length
    .have sn:=qaV lj hinvj;have hb:=b4 inn[j] (Kg lj);have bd: ¬RisP 0 inn[j]->tB (qaA ⟨node,state,steps,sent,inn,out⟩)=false:=λq=>qah λh=>q (h.2.2.2.2.2.2.2.2.1 j _ lj (Ke lj))
     generalize hl:inn[j]=l at *;(try simp(maxSteps:=2000000) (disch:=omega) only[go_sem,simprocAttr,zD,zE,eMs,hl]);refine zM [1,4,5,6] ?_;refine walk_loop 200 200 (λs:Nat × Int=>s.1<=l.length/\(RisP s.2 (l.drop s.1)↔RisP 0 l)) (λs=>⟨167, [(1, .ptr 0 0 0 0),(4,sci .i64 j),(5,sci .i64 s.2),(6,sci .i64 s.1)], [],1, [(0, .arr 6 0 [[sci .i64 node,sci .i64 state,sci .i64 steps,lI sent,lMs inn,lLs out]])]⟩) (λs=>l.length - s.1) (0,0) ?_ ?_ ?_
     .simp
     .exact zc @Kb
     .rintro⟨i,last⟩ ⟨k1,k2⟩;simp only at k1 k2;refine zV ?_;by_cases hi:i < l.length
      .have e0:l.drop i=l[i]::l.drop (i+1):=List.drop_eq_getElem_cons hi;rw[e0] at k2;have bad2: ¬MsgP last l[i]->tB (qaA ⟨node,state,steps,sent,inn,out⟩)=false:=λq=>bd λh=>q (k2.2 h).1
       (try simp(maxSteps:=2000000) (disch:=omega) only[go_sem,simprocAttr,zD,zE,eMs,hl,eII]);generalize l[i]=x at *;obtain⟨sq,lt⟩:=x;by_cases g1:sq<=last
       .have e:=bad2 λq=>by have:=q.1;simp only at this;omega
        exact zy (zQ g1 e)
       by_cases g2:500 < sq
       .have e:=bad2 λq=>by have:=q.2.1;simp only at this;omega
        exact zy (zQ g1 (zQ g2 e))
       by_cases g3:lt < 0
       .have e:=bad2 λq=>by have:=q.2.2.1;simp only at this;omega
        exact zy (zQ g1 (zQ g2 (zQ g3 e)))
       by_cases g4:3 < lt
       .have e:=bad2 λq=>by have:=q.2.2.2;simp only at this;omega
        exact zy (zQ g1 (zQ g2 (zQ g3 (zQ g4 e))))
       refine zS (zQ g1 (zQ g2 (zQ g3 g4))) ?_;refine⟨(i+1,sq),⟨hi,⟨λq=>k2.1 ⟨⟨wc,wc,wc,wc⟩,q⟩,λq=>(k2.2 q).2⟩⟩,wc,?_⟩;constructor<;>exact zU
      .obtain rfl:i=l.length:=wa
       have e:RisP 0 l:=k2.1 (by rw[Kf];trivial);(try simp(maxSteps:=2000000) (disch:=omega) only[go_sem,simprocAttr,zD,zE,eMs,hl]);refine⟨j+1, [],⟨lj,sn e⟩,wa,?_⟩;constructor<;>exact zU
    .obtain rfl:j=inn.length:=wa
     refine zP ?_;refine zM [1,8] ?_;refine qac 200 200 (λk:Nat=>k<=out.length/\ ∀(m:Nat) (l:List Int),m < k->out[m]? =some l->l.length<=500/\qci l)
      (λk=>⟨167, [(1, .ptr 0 0 0 0),(8,sci .i64 k)], [],1, [(0, .arr 6 0 [[sci .i64 node,sci .i64 state,sci .i64 steps,lI sent,lMs inn,lLs out]])]⟩) (λk=>out.length - k) (0) [] ?_ ?_ ?_
     .simp
     .exact zc (zQ @Kb (zQ @Kc.{0} @Kd.{0}))
     .rintro k hk;obtain⟨hk,hinvk⟩:=hk;refine zV ?_;by_cases lk:k < out.length
      .have sn:=qaV lk hinvk;have bd: ¬(out[k].length<=500/\qci out[k])->tB (qaA ⟨node,state,steps,sent,inn,out⟩)=false:=λq=>qah λh=>q (h.2.2.2.2.2.2.2.2.2 k _ lk (Ke lk))
       have ho:=b5 out[k] (Kg lk);generalize hx:out[k]=x at *;(try simp(maxSteps:=2000000) (disch:=omega) only[go_sem,simprocAttr,zD,zE,eLs,hx]);by_cases g1:500 < x.length
       .have e2:=bd λq=>by have:=q.1;omega
        exact zy e2
       refine zP ?_;refine zM [1,8,9] ?_;refine qac 200 200 (λn:Nat=>n<=x.length/\ ∀(m:Nat) (y:Int),m < n->x[m]? =some y->0<=y/\y<=3)
        (λn=>⟨167, [(1, .ptr 0 0 0 0),(8,sci .i64 k),(9,sci .i64 n)], [],1, [(0, .arr 6 0 [[sci .i64 node,sci .i64 state,sci .i64 steps,lI sent,lMs inn,lLs out]])]⟩) (λn=>x.length - n) (0) [] ?_ ?_ ?_
       .simp
       .exact zc (zQ @Kb (zQ @Kc.{0} @Kd.{0}))
       .rintro n hn;obtain⟨hn,hinvn⟩:=hn;refine zV ?_;by_cases ln:n < x.length
        .have sn2:=qaV ln hinvn;have bd2: ¬(0<=x[n]/\x[n]<=3)->tB (qaA ⟨node,state,steps,sent,inn,out⟩)=false:=λq=>bd λh=>q (h.2 n _ ln (Ke ln))
         generalize hy:x[n]=y at *;by_cases g2:y < 0
         .have e2:=bd2 λq=>by have:=q.1;omega
          (try simp(maxSteps:=2000000) (disch:=omega) only[go_sem,simprocAttr,zD,zE,eLs,hx,eI,hy,g2,e2])
         by_cases g3:3 < y
         .have e2:=bd2 λq=>by have:=q.2;omega
          (try simp(maxSteps:=2000000) (disch:=omega) only[go_sem,simprocAttr,zD,zE,eLs,hx,eI,hy,g2,g3,e2])
         (try simp(maxSteps:=2000000) (disch:=omega) only[go_sem,simprocAttr,zD,zE,eLs,hx,eI,hy,g2,g3]);refine⟨n+1, [],⟨ln,sn2 ⟨wa,wa⟩⟩,wa,?_⟩;constructor<;>exact zU
        .obtain rfl:n=x.length:=wa
         (try simp(maxSteps:=2000000) (disch:=omega) only[go_sem,simprocAttr,zD,zE,eLs,hx]);refine⟨k+1, [],⟨lk,sn ⟨wa,hinvn⟩⟩,wa,?_⟩;constructor<;>exact zU
      .obtain rfl:k=out.length:=wa
       have e:tB (qaA ⟨node,state,steps,sent,inn,out⟩)=true:=qap ⟨⟨wc,wc⟩,⟨wc,wc⟩,wc,wc,wc,wc,wc,hinvi,hinvj,hinvk⟩;exact zy e
end Go.Proofs.NO
/- The document on graphs: links. -/
namespace Go.Proofs.NO
open Go Go.Idl Go.Proofs Go.GP Go.Proofs.Tryz
set_option maxHeartbeats 0
set_option maxRecDepth 100000
def qcc(N a b:Int)(ls:List (Int × Int))(hl:ls.length<=1000000):Pure prog 103 [eG N ls,sci .i64 a,sci .i64 b] (sci .i64 (qay a b 0 ls)):=by
 refine zAb func103 λhs=>?_;refine walk_loop 200 200 (λi:Nat=>i<=ls.length/\qay a b i (ls.drop i)=qay a b 0 ls)
  (λi=>⟨34, [(1,sci .i64 a),(2,sci .i64 b),(3, .ptr 0 0 0 0),(7,sci .i64 i)], [],1, [(0, .arr 2 0 [[sci .i64 N,lII ls]])]⟩) (λi=>ls.length - i) 0 ?_ ?_ ?_
 .simp
 .exact zc @Kb
 .rintro i ⟨h1,h2⟩;refine zV ?_;by_cases hi:i < ls.length
  .rw[qaU hi] at h2;(try simp(disch:=omega) only[go_sem,simprocAttr,zD,zE,eII]);cases ha:ls[i].1==a
   .have hn: ¬(ls[i].1=a/\ls[i].2=b):=λh=>by simp[h.1] at ha
    refine zP ?_;refine⟨i+1,⟨hi,by rw[<-h2];simp[qay,hn]⟩,wa,?_⟩;constructor<;>exact zU
   ·(try simp(disch:=omega) only[go_sem,simprocAttr,zD,zE,eII]);cases hb:ls[i].2==b
    .have hn: ¬(ls[i].1=a/\ls[i].2=b):=λh=>by simp[h.2] at hb
     refine zP ?_;refine⟨i+1,⟨hi,by rw[<-h2];simp[qay,hn]⟩,wa,?_⟩;constructor<;>exact zU
    .have hn:ls[i].1=a/\ls[i].2=b:=⟨by simpa using ha,by simpa using hb⟩;rw[qay,if_pos hn] at h2;exact zy h2.symm
  .obtain rfl:i=ls.length:=wa
   rw[Kf] at h2;(try simp(disch:=omega) only[go_sem,simprocAttr,zD,zE,<-h2,qay])
def qb4(N n:Int)(ls:List (Int × Int))(hl:ls.length<=1000000):Pure prog 38 [eG N ls,sci .i64 n] (lI (outs n 0 ls)):=by
 refine zAb func38 λhs=>?_;refine walk_own 5 1 trivial rfl (.inl rfl) ?_;refine walk_loop 200 200 (λi:Nat × Nat × List Int=>i.1<=ls.length/\i.2.2.length<=i.1/\i.2.2++outs n i.1 (ls.drop i.1)=outs n 0 ls)
  (λi=>⟨28, [(1,sci .i64 n),(2, .ptr 0 0 0 0),(5, .ref 1 i.2.1 0 i.2.2.length),(6,sci .i64 i.1)], [],2,
   [(1, .arr 1 i.2.1 (ir eI i.2.2)),(0, .arr 2 0 [[sci .i64 N,lII ls]])]⟩) (λi=>ls.length - i.1) (0,0, []) ?_ ?_ ?_
 .simp
 .exact zc @Kb
 .rintro⟨i,g,acc⟩ ⟨h1,h2,h3⟩;simp only at h1 h2 h3;refine zV ?_;by_cases hi:i < ls.length
  .rw[qaU hi] at h3;(try simp(disch:=omega) only[go_sem,simprocAttr,zD,zE,eII]);cases hc:ls[i].1==n
   .have hc: ¬ls[i].1=n:=wX
    refine zP ?_;refine⟨(i+1,g,acc),⟨hi,wc,wR⟩,wc,?_⟩;constructor<;>exact zU
   .have hc:ls[i].1=n:=wX
    refine zP ?_;refine⟨(i+1,g+1,acc++ [(i:Int)]),⟨hi,wm,wR⟩,wc,?_⟩;constructor<;>exact zU
  .obtain rfl:i=ls.length:=wa
   rw[Kf] at h3;(try simp(disch:=omega) only[go_sem,simprocAttr,zD,zE,<-h3,outs])
def qcm(N n:Int)(ls:List (Int × Int))(hl:ls.length<=1000000):Pure prog 40 [eG N ls,sci .i64 n] (lI (ins n 0 ls)):=by
 refine zAb func40 λhs=>?_;refine walk_own 5 1 trivial rfl (.inl rfl) ?_;refine walk_loop 200 200 (λi:Nat × Nat × List Int=>i.1<=ls.length/\i.2.2.length<=i.1/\i.2.2++ins n i.1 (ls.drop i.1)=ins n 0 ls)
  (λi=>⟨28, [(1,sci .i64 n),(2, .ptr 0 0 0 0),(5, .ref 1 i.2.1 0 i.2.2.length),(6,sci .i64 i.1)], [],2,
   [(1, .arr 1 i.2.1 (ir eI i.2.2)),(0, .arr 2 0 [[sci .i64 N,lII ls]])]⟩) (λi=>ls.length - i.1) (0,0, []) ?_ ?_ ?_
 .simp
 .exact zc @Kb
 .rintro⟨i,g,acc⟩ ⟨h1,h2,h3⟩;simp only at h1 h2 h3;refine zV ?_;by_cases hi:i < ls.length
  .rw[qaU hi] at h3;(try simp(disch:=omega) only[go_sem,simprocAttr,zD,zE,eII]);cases hc:ls[i].2==n
   .have hc: ¬ls[i].2=n:=wX
    refine zP ?_;refine⟨(i+1,g,acc),⟨hi,wc,wW⟩,wc,?_⟩;constructor<;>exact zU
   .have hc:ls[i].2=n:=wX
    refine zP ?_;refine⟨(i+1,g+1,acc++ [(i:Int)]),⟨hi,wm,wW⟩,wc,?_⟩;constructor<;>exact zU
  .obtain rfl:i=ls.length:=wa
   rw[Kf] at h3;(try simp(disch:=omega) only[go_sem,simprocAttr,zD,zE,<-h3,ins])
end Go.Proofs.NO
