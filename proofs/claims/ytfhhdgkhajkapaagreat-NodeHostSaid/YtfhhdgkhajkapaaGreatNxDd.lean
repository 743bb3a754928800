/- Facts leant on. -/
import Derived.Test.YtfhhdgkhajkapaaGreatNxDa
import Derived.Test.YtfhhdgkhajkapaaGreatNzFb
import Derived.Test.YtfhhdgkhajkapaaGreatNPS
set_option linter.all false
open True renaming intro->Ka
open List renaming append_assoc->Kb,take_of_length_le->Kc,length_take->Kd,take_zero->Ke,take_take->Kf,take_succ_eq_append_getElem->Kg,getElem_mem->Kh,map_nil->Ki,set_cons_zero->Kj,set_cons_succ->Kk,map_cons->Kl,take_length->Km,length_append->Kn,getElem?_eq_getElem->Ko,append_nil->Kp,take->Kq,length_drop->Kr,length_map->Ks
open Int renaming natCast_zero->Kt,toNat_natCast->Ku
open Nat renaming min_self->Kv,reduceAdd->Kw,le_refl->Kx
open Option renaming none->U,some->V
/- The document's host with lists of its own. -/
namespace Go.Proofs.NO
open Go Go.Idl Go.Proofs Go.GP Go.Proofs.Tryz
set_option maxHeartbeats 0
set_option maxRecDepth 100000
def R9own_spec(h:Hs)(hg:gHs h):Pure prog 125 [lHs h] (lHs h):=by
 obtain⟨node,state,steps,inn,out⟩:=h;obtain⟨b2,b3,b4,b5⟩:=hg;simp only at b2 b3 b4 b5;refine zAb func125 λhs=>?_;refine walk_ownB 2 0 3 1 trivial rfl rfl rfl (.inr rfl) ?_;simp only[Kj,Kk,Kw];refine zM [1,2,3,4,108] ?_;refine qac 200 200 (λi:Nat=>i<=inn.length)
  (λi=>⟨52, [(1, .ptr 0 0 0 0),(2, .ptr 1 0 0 0),(3, .ptr 2 0 0 0),(4,sci .i64 i)], [],4, [(3, .arr 1 i (ir eMs (inn.take i))),(2, .arr 5 0 [[sci .i64 node,sci .i64 state,sci .i64 steps, .ref 3 i 0 i, .p (.sc (.slice U 0 0))]]),(1, .arr 5 0 [[sci .i64 0,sci .i64 0,sci .i64 0, .p (.sc (.slice U 0 0)), .p (.sc (.slice U 0 0))]]),(0, .arr 5 0 [[sci .i64 node,sci .i64 state,sci .i64 steps,lMs inn,lLs out]])]⟩) (λi=>inn.length - i) (0) [] ?_ ?_ ?_
 .simp
 .exact zc (zQ @Kt (zQ @Kc.{0} (zQ @Kb.{0} @Ke.{0})))
 .rintro i hi;refine zV ?_;by_cases li:i < inn.length
  .have hlt:(inn.take i).length=i:=wC
   have hl2:(inn.take i).take i=inn.take i:=ve
   have hS:inn.take (i+1)=inn.take i++ [inn[i]]:=Kg li;have hrl:=b4 _ (Kh li);(try simp(maxSteps:=2000000) (disch:=omega) only[go_sem,simprocAttr,zD,zE,eMs]);(refine zM [1,2,3,4,108] ?_;refine zI [U,U,V [0,1,3,4,5,6,7],U,U,U,U,U,V [0,1],V [0,1],V [],U,V []] ?_);(try simp(maxSteps:=2000000) (disch:=omega) only[go_sem,simprocAttr,zD,zE,eMs,hlt,hl2]);refine⟨i+1, [4],wd,?_,?_⟩
   ·(try simp only[]);omega
   .constructor<;>(try simp(maxSteps:=2000000) (disch:=omega) only[go_sem,simprocAttr,zD,zE,ir_snoc,hS,hlt,hl2,eMs,Kl,Ki,Kb])
  .obtain rfl:i=inn.length:=wa
   refine zS @Km.{0} ?_;refine walk_ownB 2 0 4 1 trivial rfl rfl rfl (.inr rfl) ?_;simp only[Kj,Kk,Kw];refine zM [1,2,3,5,108] ?_;refine qac 200 200 (λj:Nat=>j<=out.length)
    (λj=>⟨52, [(1, .ptr 0 0 0 0),(2, .ptr 1 0 0 0),(3, .ptr 2 0 0 0),(5,sci .i64 j)], [],5, [(4, .arr 1 j (ir eLs (out.take j))),(2, .arr 5 0 [[sci .i64 node,sci .i64 state,sci .i64 steps,lMs inn, .ref 4 j 0 j]]),(1, .arr 5 0 [[sci .i64 0,sci .i64 0,sci .i64 0, .p (.sc (.slice U 0 0)), .p (.sc (.slice U 0 0))]]),(0, .arr 5 0 [[sci .i64 node,sci .i64 state,sci .i64 steps,lMs inn,lLs out]])]⟩) (λj=>out.length - j) (0) [3] ?_ ?_ ?_
   .simp
   .exact zc (zQ @Kt (zQ @Kc.{0} (zQ @Kb.{0} @Ke.{0})))
   .rintro j hj;refine zV ?_;by_cases lj:j < out.length
    .have hlt:(out.take j).length=j:=wC
     have hl2:(out.take j).take j=out.take j:=ve
     have hS:out.take (j+1)=out.take j++ [out[j]]:=Kg lj;have hrl:=b5 _ (Kh lj);(try simp(maxSteps:=2000000) (disch:=omega) only[go_sem,simprocAttr,zD,zE,eLs]);(refine zM [1,2,3,5,108] ?_;refine zI [U,U,V [0,1,3,4,5,6,7],U,U,U,U,U,V [0,1],V [0,1],V [],U,V []] ?_);(try simp(maxSteps:=2000000) (disch:=omega) only[go_sem,simprocAttr,zD,zE,eLs,hlt,hl2]);refine⟨j+1, [5],wd,?_,?_⟩
     ·(try simp only[]);omega
     .constructor<;>(try simp(maxSteps:=2000000) (disch:=omega) only[go_sem,simprocAttr,zD,zE,ir_snoc,hS,hlt,hl2,eLs,Kl,Ki,Kb])
    .obtain rfl:j=out.length:=wa
     exact zy @Km.{0}
def qn6(h:Hs)(hg:gHs h):PG prog 125 [lHs h] [] 1
  (.agg [sci .i64 h.node,sci .i64 h.state,sci .i64 h.steps, .ref 0 h.inn.length 0 h.inn.length,lLs h.out]) [(0, .arr 1 h.inn.length (ir eMs h.inn))]:=by
 obtain⟨node,state,steps,inn,out⟩:=h;obtain⟨b2,b3,b4,b5⟩:=hg;simp only at b2 b3 b4 b5;simp only;refine zAh func125 0 λhs=>?_;refine walk_ownB 2 0 3 1 trivial rfl rfl rfl (.inr rfl) ?_;simp only[Kj,Kk,Kw];refine zM [1,2,3,4,108] ?_;refine qac 200 200 (λi:Nat=>i<=inn.length)
  (λi=>⟨52, [(1, .ptr 0 0 0 0),(2, .ptr 1 0 0 0),(3, .ptr 2 0 0 0),(4,sci .i64 i)], [],4, [(3, .arr 1 i (ir eMs (inn.take i))),(2, .arr 5 0 [[sci .i64 node,sci .i64 state,sci .i64 steps, .ref 3 i 0 i, .p (.sc (.slice U 0 0))]]),(1, .arr 5 0 [[sci .i64 0,sci .i64 0,sci .i64 0, .p (.sc (.slice U 0 0)), .p (.sc (.slice U 0 0))]]),(0, .arr 5 0 [[sci .i64 node,sci .i64 state,sci .i64 steps,lMs inn,lLs out]])]⟩) (λi=>inn.length - i) (0) [] ?_ ?_ ?_
 .simp
 .exact zc (zQ @Kt (zQ @Kc.{0} (zQ @Kb.{0} @Ke.{0})))
 .rintro i hi;refine zV ?_;by_cases li:i < inn.length
  .have hlt:(inn.take i).length=i:=wC
   have hl2:(inn.take i).take i=inn.take i:=ve
   have hS:inn.take (i+1)=inn.take i++ [inn[i]]:=Kg li;have hrl:=b4 _ (Kh li);(try simp(maxSteps:=2000000) (disch:=omega) only[go_sem,simprocAttr,zD,zE,eMs]);(refine zM [1,2,3,4,108] ?_;refine zI [U,U,V [0,1,3,4,5,6,7],U,U,U,U,U,V [0,1],V [0,1],V [],U,V []] ?_);(try simp(maxSteps:=2000000) (disch:=omega) only[go_sem,simprocAttr,zD,zE,eMs,hlt,hl2]);refine⟨i+1, [4],wd,?_,?_⟩
   ·(try simp only[]);omega
   .constructor<;>(try simp(maxSteps:=2000000) (disch:=omega) only[go_sem,simprocAttr,zD,zE,ir_snoc,hS,hlt,hl2,eMs,Kl,Ki,Kb])
  .obtain rfl:i=inn.length:=wa
   refine zS @Km.{0} ?_;refine walk_ownB 2 0 4 1 trivial rfl rfl rfl (.inr rfl) ?_;simp only[Kj,Kk,Kw];refine zM [1,2,3,5,108] ?_;refine qac 200 200 (λj:Nat=>j<=out.length)
    (λj=>⟨52, [(1, .ptr 0 0 0 0),(2, .ptr 1 0 0 0),(3, .ptr 2 0 0 0),(5,sci .i64 j)], [],5, [(4, .arr 1 j (ir eLs (out.take j))),(3, .arr 1 inn.length (ir eMs inn)),(2, .arr 5 0 [[sci .i64 node,sci .i64 state,sci .i64 steps, .ref 3 inn.length 0 inn.length, .ref 4 j 0 j]]),(1, .arr 5 0 [[sci .i64 0,sci .i64 0,sci .i64 0, .p (.sc (.slice U 0 0)), .p (.sc (.slice U 0 0))]]),(0, .arr 5 0 [[sci .i64 node,sci .i64 state,sci .i64 steps,lMs inn,lLs out]])]⟩) (λj=>out.length - j) (0) [] ?_ ?_ ?_
   .simp
   .exact zc (zQ @Kt (zQ @Kc.{0} (zQ @Kb.{0} @Ke.{0})))
   .rintro j hj;refine zV ?_;by_cases lj:j < out.length
    .have hlt:(out.take j).length=j:=wC
     have hl2:(out.take j).take j=out.take j:=ve
     have hS:out.take (j+1)=out.take j++ [out[j]]:=Kg lj;have hrl:=b5 _ (Kh lj);(try simp(maxSteps:=2000000) (disch:=omega) only[go_sem,simprocAttr,zD,zE,eLs]);(refine zM [1,2,3,5,108] ?_;refine zI [U,U,V [0,1,3,4,5,6,7],U,U,U,U,U,V [0,1],V [0,1],V [],U,V []] ?_);(try simp(maxSteps:=2000000) (disch:=omega) only[go_sem,simprocAttr,zD,zE,eLs,hlt,hl2]);refine⟨j+1, [5],wd,?_,?_⟩
     ·(try simp only[]);omega
     .constructor<;>(try simp(maxSteps:=2000000) (disch:=omega) only[go_sem,simprocAttr,zD,zE,ir_snoc,hS,hlt,hl2,eLs,Kl,Ki,Kb])
    .obtain rfl:j=out.length:=wa
     refine zS @Km.{0} ?_;refine⟨[3],⟨rfl,wU⟩,⟨rfl,rfl⟩,rfl,rfl,qaB _⟩
def qn7(h:Hs)(hg:gHs h){c:Nat}(hc:c=1+h.out.length):PG prog 125 [lHs h] [] c
  (.agg [sci .i64 h.node,sci .i64 h.state,sci .i64 h.steps,lMs h.inn, .ref 0 h.out.length 0 h.out.length])
  ((0, .arr 1 h.out.length (qaq 1 (qaj h.out)))::qak 1 (famB 1 eI (qaj h.out))):=by
 obtain⟨node,state,steps,inn,out⟩:=h;obtain⟨b2,b3,b4,b5⟩:=hg;simp only at b2 b3 b4 b5;simp only at hc ⊢;refine pg_of 200 (fn:=f125) func125 rfl (by simp[ntmps125]) 0 rfl (by((try refine zW ?_);(try with_reducible exact Ka))) (by((try refine zW ?_);(try with_reducible exact Ka))) (qcu _ hc rfl) (qfC _ hc) (by((try refine zW ?_);(try with_reducible exact Ka));omega) λhs=>?_;refine zV ?_;refine walk_ownB 2 0 3 1 trivial rfl rfl rfl (.inr rfl) ?_;simp only[Kj,Kk,Kw];refine zM [1,2,3,4,108] ?_;refine qac 200 200 (λi:Nat=>i<=inn.length)
  (λi=>⟨52, [(1, .ptr 0 0 0 0),(2, .ptr 1 0 0 0),(3, .ptr 2 0 0 0),(4,sci .i64 i)], [],4, [(3, .arr 1 i (ir eMs (inn.take i))),(2, .arr 5 0 [[sci .i64 node,sci .i64 state,sci .i64 steps, .ref 3 i 0 i, .p (.sc (.slice U 0 0))]]),(1, .arr 5 0 [[sci .i64 0,sci .i64 0,sci .i64 0, .p (.sc (.slice U 0 0)), .p (.sc (.slice U 0 0))]]),(0, .arr 5 0 [[sci .i64 node,sci .i64 state,sci .i64 steps,lMs inn,lLs out]])]⟩) (λi=>inn.length - i) (0) [] ?_ ?_ ?_
 .simp
 .exact zc (zQ @Kt (zQ @Kc.{0} (zQ @Kb.{0} @Ke.{0})))
 .rintro i hi;refine zV ?_;by_cases li:i < inn.length
  .have hlt:(inn.take i).length=i:=wC
   have hl2:(inn.take i).take i=inn.take i:=ve
   have hS:inn.take (i+1)=inn.take i++ [inn[i]]:=Kg li;have hrl:=b4 _ (Kh li);(try simp(maxSteps:=2000000) (disch:=omega) only[go_sem,simprocAttr,zD,zE,eMs]);(refine zM [1,2,3,4,108] ?_;refine zI [U,U,V [0,1,3,4,5,6,7],U,U,U,U,U,V [0,1],V [0,1],V [],U,V []] ?_);(try simp(maxSteps:=2000000) (disch:=omega) only[go_sem,simprocAttr,zD,zE,eMs,hlt,hl2]);refine⟨i+1, [4],wd,?_,?_⟩
   ·(try simp only[]);omega
   .constructor<;>(try simp(maxSteps:=2000000) (disch:=omega) only[go_sem,simprocAttr,zD,zE,ir_snoc,hS,hlt,hl2,eMs,Kl,Ki,Kb])
  .obtain rfl:i=inn.length:=wa
   refine zS @Km.{0} ?_;refine walk_ownB 2 0 4 1 trivial rfl rfl rfl (.inr rfl) ?_;simp only[Kj,Kk,Kw];refine zM [1,2,3,5,108] ?_;refine qac 200 200 (λj:Nat=>j<=out.length)
    (λj=>⟨52, [(1, .ptr 0 0 0 0),(2, .ptr 1 0 0 0),(3, .ptr 2 0 0 0),(5,sci .i64 j)], [],5+j,
     (4, .arr 1 j (qaq 5 (qaj (out.take j))))::(2, .arr 5 0 [[sci .i64 node,sci .i64 state,sci .i64 steps,lMs inn, .ref 4 j 0 j]])::(1, .arr 5 0 [[sci .i64 0,sci .i64 0,sci .i64 0, .p (.sc (.slice U 0 0)), .p (.sc (.slice U 0 0))]])::(0, .arr 5 0 [[sci .i64 node,sci .i64 state,sci .i64 steps,lMs inn,lLs out]])::qak 5 (famB 1 eI (qaj (out.take j)))⟩) (λj=>out.length - j) 0 [3] ?_ ?_ ?_
   .simp
   .constructor<;>(try simp(maxSteps:=2000000) (disch:=omega) only[go_sem,simprocAttr,zD,zE,Kt,Ke,qaj,Ki,qaq,famB,qak])
   .intro j h1;have htl:(qaj (out.take j)).length=j:=by rw[qbb,Kd];omega
    have hrl:(qaq 5 (qaj (out.take j))).length=j:=by rw[qcv,htl]
    have hrt:(qaq 5 (qaj (out.take j))).take j=qaq 5 (qaj (out.take j)):=Kc wa;refine zV ?_;by_cases lj:j < out.length
    .have hrl2:=b5 _ (Kh lj);have e2:qaj (out.take (j+1))=qaj (out.take j)++ [(0,out[j])]:=by rw[Kg lj,qhl]
     have e3:qaq 5 (qaj (out.take (j+1)))=qaq 5 (qaj (out.take j))++ [[.ref (5+j) 0 0 out[j].length]]:=by rw[e2,qfI,htl]
     (try simp(maxSteps:=2000000) (disch:=omega) only[go_sem,simprocAttr,zD,zE,eLs]);(refine zM [1,2,3,5,108] ?_;refine zI [U,U,V [0,1,3,4,5,6,7],U,U,U,U,U,V [0,1],V [0,1],V [],U,V []] ?_);(try simp(maxSteps:=2000000) (disch:=omega) only[go_sem,simprocAttr,zD,zE,eLs,qa2,htl,hrl,hrt]);refine⟨⟨wa,wa⟩,j+1, [],lj,wa,?_⟩;rw[e3];constructor
     case blks=>
      refine zS (zQ @qa2 htl) ?_;have hxl:(qaj (out.take (j+1))).length=j+1:=by rw[e2,Kn,htl];rfl
      refine⟨⟨wa,qbA vu⟩,⟨wa,wa⟩,wa,wa,qbW (.inr (by rw[hxl];omega)) λi hi=>?_⟩;have hx:(qaj (out.take (j+1)))[i]=(0,out[i]'wa):=by simp[qaj]
      rw[hx];have f2: ¬2=5+i:=wa
      have f4: ¬4=5+i:=wa
      have f1: ¬1=5+i:=wa
      have f0: ¬0=5+i:=wa
      by_cases hij:i=j
      .subst hij;have f5: ¬5+(i+1)=5+i:=wa
       (try simp(maxSteps:=2000000) only[go_sem,simprocAttr,f0,f1,f2,f4,f5])
      .have f5: ¬5+(j+1)=5+i:=wa
       have f6: ¬5+j=5+i:=wa
       have hk:Idl.look (qak 5 (famB 1 eI (qaj (out.take j)))) (5+i)=V (.arr 1 0 (ir eI (out[i]'wa))):=by
        have:=qa4 (sz:=1) (e:=eI) (k:=5) (r:= []) (xs:=qaj (out.take j)) (i:=i) wa;rw[Kp] at this;rw[this];simp[qaj]
       (try simp(maxSteps:=2000000) only[go_sem,simprocAttr,f0,f1,f2,f4,f5,f6,hk])
     all_goals((try simp(maxSteps:=2000000) (disch:=omega) only[go_sem,simprocAttr,zD,zE,qa2,htl]);try omega)
    .obtain rfl:j=out.length:=wa
     refine zS @Km.{0} ?_;refine qc9 4 (.inr rfl) (Nat.zero_le _) (by((try refine zW ?_);(try with_reducible exact Ka))) (by((try refine zW ?_);(try with_reducible exact Ka));omega) (qcu _ hc rfl) ?_ ?_
     .refine zS (zQ @qa2 @qbb) ?_;refine qdb λi hi=>?_;have f2: ¬2=5+i:=wa
      have f4: ¬4=5+i:=wa
      have f1: ¬1=5+i:=wa
      have f0: ¬0=5+i:=wa
      have hk:=qa4 (sz:=1) (e:=eI) (k:=5) (r:= []) hi;rw[Kp] at hk;(try simp(maxSteps:=2000000) only[go_sem,simprocAttr,f0,f1,f2,f4,hk])
     .exact zT
end Go.Proofs.NO
namespace Go.Proofs.NO
open Go Go.Idl Go.Proofs Go.GP Go.Proofs.Tryz
end Go.Proofs.NO
/- The document's take of a host: its walk. -/
namespace Go.Proofs.NO
open Go Go.Idl Go.Proofs Go.GP Go.Proofs.Tryz
set_option maxHeartbeats 0
set_option maxRecDepth 100000
def qnw{q:Int}: ∀ {l:List (Int × Int)} {i:Nat} (h:i < posL q l) (hl:i < l.length),l[i].1 < q
 | [],i,h,hl=>by simp at hl
 | x::r,i,h,hl=>by
   unfold posL at h;split at h
   .rename_i c;cases i with
    | zero=>exact c
    | succ i=>exact qnw (Nat.lt_of_succ_lt_succ h) (by simpa using hl)
   .omega
def qlU{q:Int}: ∀ {l:List (Int × Int)} (y:Int × Int),l[posL q l]? =V y-> ¬y.1 < q
 | [],y,h=>by simp at h
 | x::r,y,h=>by
   unfold posL at h;split at h
   .exact qlU (l:=r) y wE
   .rename_i c;simp at h;rw[<-h];exact c
def R9Take_spec(s:Sc)(h:Hs)(x:Int)(m:Int × Int)(n j:Nat)(nd:Nd)(st:St)(hn:h.node=n)(hj:h.state=j)(hx:s.T[n]? =V nd)(hq:nd.states[j]? =V st)(hg:gHs h)(hl:s.ls.length<=1000000)(hk:st.takes.length<=1000000)
  (hi:h.inn.length=(ins h.node 0 s.ls).length) (hu: ∀l∈h.inn,UpH l/\l.length<=1000) (h0:0<=h.steps/\h.steps<=2147483647):
  Pure prog 50 [lApp s,lHs h,sci .i64 x, .agg [sci .i64 m.1,sci .i64 m.2]] (.tup [lHs (takeH s.ls st h x m).1,sci .i64 (takeH s.ls st h x m).2]):=by
 obtain⟨N,ls,T,ff,room,acts⟩:=s;obtain⟨node,state,steps,inn,out⟩:=h;obtain⟨q1,q2⟩:=m;obtain⟨b2,b3,b4,b5⟩:=id hg;simp only at hn hj hx hl hi hu h0 b2 b3 b4 b5;subst hn hj;generalize hres:takeH ls st ⟨n,j,steps,inn,out⟩ x (q1,q2)=res;unfold takeH at hres;simp only at hres;refine zAb func50 λhs=>?_;refine zY (qcm N n ls hl) ?_;(refine zG ?_;refine qaa (qfV _ _) zB ?_;refine zV ?_);by_cases c1:indexL x 0 (ins n 0 ls) < 0
 .rw[if_pos (.inl c1)] at hres;subst hres;refine zS c1 ?_;(refine zM [2,4,5,7,8,10,108] ?_;refine zI [U,U,U,U,U,U,U,U,U,U,U,U,U,U,U,U,U,U,U,U,U,U,U,U,U,U,U,U,U,U,V [],U,U] ?_);(try simp(maxSteps:=2000000) (disch:=omega) only[go_sem,simprocAttr,zD,zE,c1,zH])
 by_cases c2:q1 < 1
 .rw[if_pos (.inr (.inl c2))] at hres;subst hres;refine zP ?_;(refine zM [2,4,5,7,8,10,108] ?_;refine zI [U,U,U,U,U,U,U,U,U,U,U,U,U,U,U,U,U,U,U,U,U,U,U,U,U,U,U,U,U,U,V [],U,U] ?_);(try simp(maxSteps:=2000000) (disch:=omega) only[go_sem,simprocAttr,zD,zE,c1,c2,zH])
 by_cases c3:500 < q1
 .rw[if_pos (.inr (.inr (.inl c3)))] at hres;subst hres;refine zP ?_;(refine zM [2,4,5,7,8,10,108] ?_;refine zI [U,U,U,U,U,U,U,U,U,U,U,U,U,U,U,U,U,U,U,U,U,U,U,U,U,U,U,U,U,U,V [],U,U] ?_);(try simp(maxSteps:=2000000) (disch:=omega) only[go_sem,simprocAttr,zD,zE,c1,c2,c3,zH])
 by_cases c4:q2 < 0
 .rw[if_pos (.inr (.inr (.inr (.inl c4))))] at hres;subst hres;refine zP ?_;(refine zM [2,4,5,7,8,10,108] ?_;refine zI [U,U,U,U,U,U,U,U,U,U,U,U,U,U,U,U,U,U,U,U,U,U,U,U,U,U,U,U,U,U,V [],U,U] ?_);(try simp(maxSteps:=2000000) (disch:=omega) only[go_sem,simprocAttr,zD,zE,c1,c2,c3,c4,zH])
 by_cases c5:4<=q2
 .rw[if_pos (.inr (.inr (.inr (.inr c5))))] at hres;subst hres;refine zP ?_;(refine zM [2,4,5,7,8,10,108] ?_;refine zI [U,U,U,U,U,U,U,U,U,U,U,U,U,U,U,U,U,U,U,U,U,U,U,U,U,U,U,U,U,U,V [],U,U] ?_);(try simp(maxSteps:=2000000) (disch:=omega) only[go_sem,simprocAttr,zD,zE,c1,c2,c3,c4,c5,zH])
 rw[if_neg (λq=>q.elim c1 λq=>q.elim c2 λq=>q.elim c3 λq=>q.elim c4 c5)] at hres;rcases indexL_at x (ins n 0 ls) with e | ⟨i,e,hil,hig⟩
 .exact absurd wa c1
 have lin:i < inn.length:=wa
 rw[e,Ku,Ko lin] at hres;obtain⟨kx,hkx,rfl,hlk⟩:=qiV (List.mem_of_getElem? hig);simp only[Nat.zero_add] at hig e hres;rw[Ku,Ko hkx] at hres;simp only at hres;obtain⟨hup,hrl⟩:=hu _ (Kh lin);have hblk:=qn6 ⟨n,j,steps,inn,out⟩ hg;simp only at hblk;generalize hrow:inn[i]=row at *;generalize hlx:ls[kx]=lk at *;obtain⟨la,lb⟩:=lk;have c1': ¬((i:Int) < 0):=wa
 refine zS e ?_;(refine zM [2,4,5,7,8,10,108] ?_;refine zI [U,U,U,U,U,U,U,U,U,U,U,U,U,U,U,U,U,U,U,U,U,U,U,U,U,U,U,U,U,U,V [],U,U] ?_);(try simp(maxSteps:=2000000) (disch:=omega) only[go_sem,simprocAttr,zD,zE,e,c1',c2,c3,c4,c5,eMs,hrow]);(refine zF ?_;refine qaa (qkZ row q1) zB ?_;refine zV ?_);have hiff:(0<=idxM q1 0 row)↔ ∃y,row[posL q1 row]? =V y/\y.fst=q1:=by rw[qjo,posL_has (up_pw.1 hup)]
 cases hf:tB (∃y,row[posL q1 row]? =V y/\y.fst=q1) with
 | true=>
   rw[hf,if_pos rfl] at hres;subst hres;have hi0:=hiff.2 (qma.1 hf);(try simp(maxSteps:=2000000) (disch:=omega) only[go_sem,simprocAttr,zD,zE,hi0,zH])
 | false=>
   rw[hf,if_neg wh] at hres;subst hres;have hi0: ¬0<=idxM q1 0 row:=λc=>by rw[qap (hiff.1 c)] at hf;cases hf
   refine zS hi0 ?_;(refine at_gr 200 ?_;refine zW ?_;refine callG_of [] (hblk) zU ?_);refine zP ?_;refine walk_own 12 2 trivial rfl (.inl rfl) ?_;refine zM [2,4,5,7,8,10,11,12,13] ?_;have hpl:=qi1 q1 row;generalize hk1:posL q1 row=k1 at *;refine qac 200 200 (λi1:Nat=>i1<=k1)
    (λi1=>⟨136, [(2,sci .i64 kx),(4, .ptr 0 0 0 0),(5, .ptr 1 0 0 0),(7, .ptr 2 0 0 0),(8, .ptr 3 0 0 0),(10,sci .i64 i),(11, .ptr 5 0 0 0),(12, .ref 6 i1 0 i1),(13,sci .i64 i1)], [],7, [(6, .arr 2 i1 (ir eII (row.take i1))),(5, .arr 5 0 [[sci .i64 n,sci .i64 j,sci .i64 steps, .ref 4 inn.length 0 inn.length,lLs out]]),(4, .arr 1 inn.length (ir eMs inn)),(3, .arr 5 0 [[sci .i64 0,sci .i64 0,sci .i64 0,nil0,nil0]]),(2, .arr 2 0 [[sci .i64 q1,sci .i64 q2]]),(1, .arr 5 0 [[sci .i64 n,sci .i64 j,sci .i64 steps,lMs inn,lLs out]]),(0, .arr 4 0 [[sci .i64 N,lII ls, .p (.imm 2 (pr eNd T)),scb ff]])]⟩) (λi1=>k1 - i1) (0) [] ?_ ?_ ?_
   .simp
   .exact zc (zQ @Kt (zQ @Kc.{0} (zQ @Kb.{0} @Ke.{0})))
   .rintro i1 hi1;refine zV ?_;by_cases li1:i1 < k1
    .have lr:i1 < row.length:=wa
     have hlt:(row.take i1).length=i1:=wC
     have hl2:(row.take i1).take i1=row.take i1:=ve
     have hS:row.take (i1+1)=row.take i1++ [row[i1]]:=Kg lr;have hlq:row[i1].1 < q1:=qnw (by rw[hk1];exact li1) lr;(refine zM [2,4,5,7,8,10,11,12,13] ?_;refine zI [U,U,U,U,U,U,U,U,U,U,U,U,U,U,U,U,U,U,U,U,U,U] ?_);(try simp(maxSteps:=2000000) (disch:=omega) only[go_sem,simprocAttr,zD,zE,eMs,hrow,eII,hlq,hlt,hl2]);refine⟨i1+1, [],wd,?_,?_⟩
     ·(try simp only[]);omega
     .constructor<;>(try simp(maxSteps:=2000000) (disch:=omega) only[go_sem,simprocAttr,zD,zE,ir_snoc,hS,hlt,hl2,eII,Kl,Ki,Kb])
    .obtain rfl:i1=k1:=wa
     have hlt:(row.take i1).length=i1:=wC
     have hl2:(row.take i1).take i1=row.take i1:=ve
     have hdr:Kq (row.length - i1) (List.drop i1 row)=row.drop i1:=Kc (by rw[Kr];omega);have hdl:(row.drop i1).length=row.length - i1:=Kr;have hir:(ir eII (row.take i1)).length=i1:=by rw[ir,Ks,hlt]
     have htk:Kq (i1+1) (ir eII (row.take i1)++ [[IV.p (.sc (.int .i64 q1)),IV.p (.sc (.int .i64 q2))]])=ir eII (row.take i1)++ [[IV.p (.sc (.int .i64 q1)),IV.p (.sc (.int .i64 q2))]]:=Kc (by rw[Kn,hir];exact Kx _);have hnew:ir eII (row.take i1)++ [[IV.p (.sc (.int .i64 q1)),IV.p (.sc (.int .i64 q2))]]++ir eII (row.drop i1)=ir eII (row.take i1++(q1,q2)::row.drop i1):=by simp[ir,eII]
     have hnl:(row.take i1++(q1,q2)::row.drop i1).length=i1+(1+(row.length - i1)):=by rw[Kn,hlt,List.length_cons,hdl];omega
     have hset:ir eMs (inn.set i (row.take i1++(q1,q2)::row.drop i1))=(ir eMs inn).set i [.p (.imm 2 (pr eII (row.take i1++(q1,q2)::row.drop i1)))]:=by rw[ir,ir,List.map_set];rfl
     (refine zM [2,4,5,7,8,10,11,12,13] ?_;refine zI [U,U,U,U,U,U,U,U,U,U,U,U,U,U,U,U,U,U,U,U,U,U] ?_);rcases Nat.lt_or_ge i1 row.length with lr | lr
     case' inl=>
      have hlq: ¬row[i1].1 < q1:=qlU _ (by rw[hk1];exact Ko lr);(try simp(maxSteps:=2000000) (disch:=omega) only[go_sem,simprocAttr,zD,zE,eMs,hrow,eII,hlq,hlt,hl2,hdr,hdl,htk,hnew])
     case' inr=>
      (try simp(maxSteps:=2000000) (disch:=omega) only[go_sem,simprocAttr,zD,zE,eMs,hrow,eII,hlt,hl2,hdr,hdl,htk,hnew])
     all_goals
      generalize hne:row.take i1++(q1,q2)::row.drop i1=new at *;have hnt:(ir eII new).take (i1+(1+(row.length - i1)))=ir eII new:=Kc (by rw[ir,Ks,hnl];exact Kx _);refine qbf 200 [6] ⟨136, [(2,sci .i64 kx),(4, .ptr 0 0 0 0),(5, .ptr 1 0 0 0),(7, .ptr 2 0 0 0),(8, .ptr 3 0 0 0),(11, .ptr 5 0 0 0)], [],7,
       [(5, .arr 5 0 [[sci .i64 n,sci .i64 j,sci .i64 steps, .ref 4 inn.length 0 inn.length,lLs out]]),(4, .arr 1 inn.length (ir eMs (inn.set i new))),(3, .arr 5 0 [[sci .i64 0,sci .i64 0,sci .i64 0,nil0,nil0]]),(2, .arr 2 0 [[sci .i64 q1,sci .i64 q2]]),
       (1, .arr 5 0 [[sci .i64 n,sci .i64 j,sci .i64 steps,lMs inn,lLs out]]),(0, .arr 4 0 [[sci .i64 N,lII ls, .p (.imm 2 (pr eNd T)),scb ff]])]⟩ trivial ?_ ?_
      .constructor
       case blks=>
        refine zP ?_;rw[hset];refine qln ?_;exact zy hnt
       all_goals exact zU
      refine zP ?_;(refine zM [2,4,5,7,8,11,108] ?_;refine zI [U,U,U,U,U,U,U,U,U,U,U,U,U,U,U,V [],U,V []] ?_);(try simp(maxSteps:=2000000) (disch:=omega) only[go_sem,simprocAttr,zD,zE,hlx,eII]);refine zX (qkV T n j nd st hx hq la q2 hk) ?_;rw[Kc wb]
end Go.Proofs.NO
