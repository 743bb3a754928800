/- The document's node: it floods, and tells. -/
import Derived.Test.YtfhhdgkhajkapaaGreatIdLo
import Derived.Test.YtfhhdgkhajkapaaGreatNNi
import Derived.Test.YtfhhdgkhajkapaaGreatNRa
set_option linter.all false
open True renaming intro->Ka
open List renaming append_assoc->Kb,take_of_length_le->Kc,map_cons->Kd,map_nil->Ke,take_zero->Kf,append_nil->Kg,take_succ_eq_append_getElem->Kh,map_append->Ki,take_length->Kj,set_cons_zero->Kk,set_cons_succ->Kl,length_append->Km,length_singleton->Kn
open Nat renaming add_zero->Ko,add_assoc->Kp,reduceAdd->Kq,sub_self->Kr,add_sub_cancel_left->Ks
open Int renaming natCast_zero->Kt
open Option renaming none->U,some->V
open Bool renaming true->Y,false->Z
namespace Go.Proofs.NO
open Go Go.Idl Go.Proofs Go.GP Go.Proofs.Tryz
set_option maxHeartbeats 0
set_option maxRecDepth 100000
@[go_sem] abbrev tRow(x:No)(o p q:IV)(e:Int):List IV:= [sci .i64 x.h.node,sci .i64 x.h.state,sci .i64 x.h.steps,lMs x.h.inn,lLs x.h.out,sci .i64 x.m.epoch,lBo x.m.opn,sci .i64 x.m.p.node,sci .i64 x.m.p.state,sci .i64 x.m.p.steps,lI x.m.p.sent,lMs x.m.p.inn,lLs x.m.p.out,sci .i64 x.u.epoch,sci .i64 x.u.p.node,sci .i64 x.u.p.state,sci .i64 x.u.p.steps,lI x.u.p.sent,lMs x.u.p.inn,lLs x.u.p.out,sci .i64 x.t.epoch,sci .i64 x.t.up,sci .i64 x.t.wait,lI x.t.kids,lPs x.got,sci .i64 x.heard,sci .i64 x.told,lI x.seen,o,p,q,sci .i64 e]
@[go_sem] abbrev lTo(x:No)(o p q:IV)(e:Int):IV:= .agg [sci .i64 x.h.node,sci .i64 x.h.state,sci .i64 x.h.steps,lMs x.h.inn,lLs x.h.out,sci .i64 x.m.epoch,lBo x.m.opn,sci .i64 x.m.p.node,sci .i64 x.m.p.state,sci .i64 x.m.p.steps,lI x.m.p.sent,lMs x.m.p.inn,lLs x.m.p.out,sci .i64 x.u.epoch,sci .i64 x.u.p.node,sci .i64 x.u.p.state,sci .i64 x.u.p.steps,lI x.u.p.sent,lMs x.u.p.inn,lLs x.u.p.out,sci .i64 x.t.epoch,sci .i64 x.t.up,sci .i64 x.t.wait,lI x.t.kids,lPs x.got,sci .i64 x.heard,sci .i64 x.told,lI x.seen,o,p,q,sci .i64 e]
abbrev lTq(d:Td):IV:=lTo d.x (lOus d.out) (lPs d.ps) (lI d.path) d.e
def qq2(N:Int)(ls:List (Int × Int))(T:List Nd)(ff:Bool)(x:No)(g n:Nat)(o:List Ou)(ps:List Pc)(path:List Int)(ho:o.length=n)(hn:n<=1000)(hl:ls.length<=1000000)(h5:(outs x.h.node 0 ls).length<=1000)(e0 e:Int):
  PG prog 200 [lAp N ls T ff,lTo x (.ref 0 g 0 n) (lPs ps) (lI path) e0,sci .i64 e] [.arr 10 g (ir eOu o)] 0
   (lTo ⟨x.h,x.m,x.u,x.t, [],0,x.told,x.seen⟩ (.ref 0 (g+(outs x.h.node 0 ls).length) 0 (n+(outs x.h.node 0 ls).length)) (lPs ps) (lI path) e0)
   [(0, .arr 10 (g+(outs x.h.node 0 ls).length) (ir eOu (o++(outs x.h.node 0 ls).map (λl=>(⟨l,ctl (kindN ff) e⟩:Ou)))))]:=by
 have hO:=qbj N x.h.node ls hl;generalize outs x.h.node 0 ls=L at *;cases ff
 .rw[show kindN Z=2 from rfl];refine pg_of 200 (fn:=f200) func200 rfl vX 1 rfl zC zC zC zC zC λhs=>?_;refine zV ?_;(refine zG ?_;refine qaa (hO) zB ?_;refine zV ?_);(refine walk_trim [2,4,6,7,8,9,254] trivial zL ?_;((try refine zW ?_);(try with_reducible exact Ka)));have t0:(L.take 0).map (λl=>(⟨l,ctl 2 e⟩:Ou))= []:=by rw[Kf];rfl
  refine qac 200 200 (λi:Nat=>i<=L.length)
   (λi=>⟨43, [(2,sci .i64 e),(4, .ptr 2 0 0 0),(6, .ptr 3 0 0 0),(7,sci .i64 2),(8,lI L),(9,sci .i64 i)], [],4, [(0, .arr 10 (g+i) (ir eOu (o++(L.take i).map (λl=>(⟨l,ctl 2 e⟩:Ou))))),(2, .arr 32 0 [tRow ⟨x.h,x.m,x.u,x.t, [],0,x.told,x.seen⟩ (.ref 0 (g+i) 0 (n+i)) (lPs ps) (lI path) e0]),(3, .arr 32 0 [[sci .i64 0,sci .i64 0,sci .i64 0,nil0,nil0,sci .i64 0,nil0,sci .i64 0,sci .i64 0,sci .i64 0,nil0,nil0,nil0,sci .i64 0,sci .i64 0,sci .i64 0,sci .i64 0,nil0,nil0,nil0,sci .i64 0,sci .i64 0,sci .i64 0,nil0,nil0,sci .i64 0,sci .i64 0,nil0,nil0,nil0,nil0,sci .i64 0]]),(1, .arr 4 0 [[sci .i64 N, .p (.imm 2 (pr eII ls)), .p (.imm 2 (pr eNd T)),scb Z]])]⟩) (λi=>L.length - i) (0) [] ?_ ?_ ?_
  .simp
  .constructor<;>(try simp(maxSteps:=2000000) (disch:=omega) only[go_sem,simprocAttr,zD,zE,Kt,Kc,Kb,t0,Kg,Ko])
  .rintro i hi;refine zV ?_;by_cases li:i < L.length
   .have hsn:o++(L.take (i+1)).map (λl=>(⟨l,ctl 2 e⟩:Ou))=(o++(L.take i).map (λl=>(⟨l,ctl 2 e⟩:Ou)))++ [⟨L[i],ctl 2 e⟩]:=by
     rw[Kh li,Ki,<-Kb];rfl
    have hlen:(o++(L.take i).map (λl=>(⟨l,ctl 2 e⟩:Ou))).length=n+i:=wj
    have htk:(o++(L.take i).map (λl=>(⟨l,ctl 2 e⟩:Ou))).take (n+i)=o++(L.take i).map (λl=>(⟨l,ctl 2 e⟩:Ou)):=Kc wa;generalize o++(L.take i).map (λl=>(⟨l,ctl 2 e⟩:Ou))=A at *;generalize hB:o++(L.take (i+1)).map (λl=>(⟨l,ctl 2 e⟩:Ou))=B at *;simp only[ctl] at hB hsn;(try simp(maxSteps:=2000000) (disch:=omega) only[go_sem,simprocAttr,zD,zE,eI]);(refine zM [2,4,6,7,8,9,254] ?_;refine zI [U,U,U,U,U,U,U,U,U,U,V [0,1],V [],U,V []] ?_);(try simp(maxSteps:=2000000) (disch:=omega) only[go_sem,simprocAttr,zD,zE,eI,hlen,htk]);refine⟨i+1, [],wd,?_,?_⟩
    ·(try simp only[]);omega
    .constructor<;>(try simp(maxSteps:=2000000) (disch:=omega) only[go_sem,simprocAttr,zD,zE,hB,hsn,ir_snoc,eOu,ctl,hlen,htk,Kd,Ke,Kp,Kb])
   .obtain rfl:i=L.length:=wa
    rw[Kj];((try refine zO ?_);(try with_reducible exact Ka))
 .rw[show kindN Y=1 from rfl];refine pg_of 200 (fn:=f200) func200 rfl vX 1 rfl zC zC zC zC zC λhs=>?_;refine zV ?_;(refine zG ?_;refine qaa (hO) zB ?_;refine zV ?_);(refine walk_trim [2,4,6,7,8,9,254] trivial zL ?_;((try refine zW ?_);(try with_reducible exact Ka)));have t0:(L.take 0).map (λl=>(⟨l,ctl 1 e⟩:Ou))= []:=by rw[Kf];rfl
  refine qac 200 200 (λi:Nat=>i<=L.length)
   (λi=>⟨43, [(2,sci .i64 e),(4, .ptr 2 0 0 0),(6, .ptr 3 0 0 0),(7,sci .i64 1),(8,lI L),(9,sci .i64 i)], [],4, [(0, .arr 10 (g+i) (ir eOu (o++(L.take i).map (λl=>(⟨l,ctl 1 e⟩:Ou))))),(2, .arr 32 0 [tRow ⟨x.h,x.m,x.u,x.t, [],0,x.told,x.seen⟩ (.ref 0 (g+i) 0 (n+i)) (lPs ps) (lI path) e0]),(3, .arr 32 0 [[sci .i64 0,sci .i64 0,sci .i64 0,nil0,nil0,sci .i64 0,nil0,sci .i64 0,sci .i64 0,sci .i64 0,nil0,nil0,nil0,sci .i64 0,sci .i64 0,sci .i64 0,sci .i64 0,nil0,nil0,nil0,sci .i64 0,sci .i64 0,sci .i64 0,nil0,nil0,sci .i64 0,sci .i64 0,nil0,nil0,nil0,nil0,sci .i64 0]]),(1, .arr 4 0 [[sci .i64 N, .p (.imm 2 (pr eII ls)), .p (.imm 2 (pr eNd T)),scb Y]])]⟩) (λi=>L.length - i) (0) [] ?_ ?_ ?_
  .simp
  .constructor<;>(try simp(maxSteps:=2000000) (disch:=omega) only[go_sem,simprocAttr,zD,zE,Kt,Kc,Kb,t0,Kg,Ko])
  .rintro i hi;refine zV ?_;by_cases li:i < L.length
   .have hsn:o++(L.take (i+1)).map (λl=>(⟨l,ctl 1 e⟩:Ou))=(o++(L.take i).map (λl=>(⟨l,ctl 1 e⟩:Ou)))++ [⟨L[i],ctl 1 e⟩]:=by
     rw[Kh li,Ki,<-Kb];rfl
    have hlen:(o++(L.take i).map (λl=>(⟨l,ctl 1 e⟩:Ou))).length=n+i:=wj
    have htk:(o++(L.take i).map (λl=>(⟨l,ctl 1 e⟩:Ou))).take (n+i)=o++(L.take i).map (λl=>(⟨l,ctl 1 e⟩:Ou)):=Kc wa;generalize o++(L.take i).map (λl=>(⟨l,ctl 1 e⟩:Ou))=A at *;generalize hB:o++(L.take (i+1)).map (λl=>(⟨l,ctl 1 e⟩:Ou))=B at *;simp only[ctl] at hB hsn;(try simp(maxSteps:=2000000) (disch:=omega) only[go_sem,simprocAttr,zD,zE,eI]);(refine zM [2,4,6,7,8,9,254] ?_;refine zI [U,U,U,U,U,U,U,U,U,U,V [0,1],V [],U,V []] ?_);(try simp(maxSteps:=2000000) (disch:=omega) only[go_sem,simprocAttr,zD,zE,eI,hlen,htk]);refine⟨i+1, [],wd,?_,?_⟩
    ·(try simp only[]);omega
    .constructor<;>(try simp(maxSteps:=2000000) (disch:=omega) only[go_sem,simprocAttr,zD,zE,hB,hsn,ir_snoc,eOu,ctl,hlen,htk,Kd,Ke,Kp,Kb])
   .obtain rfl:i=L.length:=wa
    rw[Kj];((try refine zO ?_);(try with_reducible exact Ka))
def qq3(N:Int)(ls:List (Int × Int))(T:List Nd)(ff:Bool)(x:No)(hl:ls.length<=1000000)(h5:(outs x.h.node 0 ls).length<=1000)(e:Int):
  PG prog 200 [lAp N ls T ff,lTo x nil0 nil0 nil0 0,sci .i64 e] [] 1
   (lTo ⟨x.h,x.m,x.u,x.t, [],0,x.told,x.seen⟩ (.ref 0 (outs x.h.node 0 ls).length 0 (outs x.h.node 0 ls).length) (lPs []) (lI []) 0)
   [(0, .arr 10 (outs x.h.node 0 ls).length (ir eOu ((outs x.h.node 0 ls).map (λl=>(⟨l,ctl (kindN ff) e⟩:Ou)))))]:=by
 have hO:=qbj N x.h.node ls hl;generalize outs x.h.node 0 ls=L at *;cases ff
 .rw[show kindN Z=2 from rfl];refine pg_of 200 (fn:=f200) func200 rfl vX 0 rfl zC zC zC zC zC λhs=>?_;refine zV ?_;(refine zG ?_;refine qaa (hO) zB ?_;refine zV ?_);refine walk_ownB 1 0 28 10 trivial rfl rfl rfl (.inr rfl) ?_;simp only[Kk,Kl,Kq];(refine walk_trim [2,4,6,7,8,9,254] trivial zL ?_;((try refine zW ?_);(try with_reducible exact Ka)));have t0:(L.take 0).map (λl=>(⟨l,ctl 2 e⟩:Ou))= []:=by rw[Kf];rfl
  refine qac 200 200 (λi:Nat=>i<=L.length)
   (λi=>⟨43, [(2,sci .i64 e),(4, .ptr 1 0 0 0),(6, .ptr 2 0 0 0),(7,sci .i64 2),(8,lI L),(9,sci .i64 i)], [],4, [(3, .arr 10 (i) (ir eOu ((L.take i).map (λl=>(⟨l,ctl 2 e⟩:Ou))))),(1, .arr 32 0 [tRow ⟨x.h,x.m,x.u,x.t, [],0,x.told,x.seen⟩ (.ref 3 (i) 0 (i)) (nil0) (nil0) 0]),(2, .arr 32 0 [[sci .i64 0,sci .i64 0,sci .i64 0,nil0,nil0,sci .i64 0,nil0,sci .i64 0,sci .i64 0,sci .i64 0,nil0,nil0,nil0,sci .i64 0,sci .i64 0,sci .i64 0,sci .i64 0,nil0,nil0,nil0,sci .i64 0,sci .i64 0,sci .i64 0,nil0,nil0,sci .i64 0,sci .i64 0,nil0,nil0,nil0,nil0,sci .i64 0]]),(0, .arr 4 0 [[sci .i64 N, .p (.imm 2 (pr eII ls)), .p (.imm 2 (pr eNd T)),scb Z]])]⟩) (λi=>L.length - i) (0) [] ?_ ?_ ?_
  .simp
  .constructor<;>(try simp(maxSteps:=2000000) (disch:=omega) only[go_sem,simprocAttr,zD,zE,Kt,Kc,Kb,t0,Kg,Ko])
  .rintro i hi;refine zV ?_;by_cases li:i < L.length
   .have hsn:(L.take (i+1)).map (λl=>(⟨l,ctl 2 e⟩:Ou))=((L.take i).map (λl=>(⟨l,ctl 2 e⟩:Ou)))++ [⟨L[i],ctl 2 e⟩]:=by
     rw[Kh li,Ki];rfl
    have hlen:((L.take i).map (λl=>(⟨l,ctl 2 e⟩:Ou))).length=i:=wj
    have htk:((L.take i).map (λl=>(⟨l,ctl 2 e⟩:Ou))).take (i)=(L.take i).map (λl=>(⟨l,ctl 2 e⟩:Ou)):=Kc wa;generalize (L.take i).map (λl=>(⟨l,ctl 2 e⟩:Ou))=A at *;generalize hB:(L.take (i+1)).map (λl=>(⟨l,ctl 2 e⟩:Ou))=B at *;simp only[ctl] at hB hsn;(try simp(maxSteps:=2000000) (disch:=omega) only[go_sem,simprocAttr,zD,zE,eI]);(refine zM [2,4,6,7,8,9,254] ?_;refine zI [U,U,U,U,U,U,U,U,U,U,V [0,1],V [],U,V []] ?_);(try simp(maxSteps:=2000000) (disch:=omega) only[go_sem,simprocAttr,zD,zE,eI,hlen,htk]);refine⟨i+1, [],wd,?_,?_⟩
    ·(try simp only[]);omega
    .constructor<;>(try simp(maxSteps:=2000000) (disch:=omega) only[go_sem,simprocAttr,zD,zE,hB,hsn,ir_snoc,eOu,ctl,hlen,htk,Kd,Ke,Kp,Kb])
   .obtain rfl:i=L.length:=wa
    rw[Kj];refine zP ?_;refine⟨[3],⟨rfl,wD⟩,rfl,rfl,rfl,qaB _⟩
 .rw[show kindN Y=1 from rfl];refine pg_of 200 (fn:=f200) func200 rfl vX 0 rfl zC zC zC zC zC λhs=>?_;refine zV ?_;(refine zG ?_;refine qaa (hO) zB ?_;refine zV ?_);refine walk_ownB 1 0 28 10 trivial rfl rfl rfl (.inr rfl) ?_;simp only[Kk,Kl,Kq];(refine walk_trim [2,4,6,7,8,9,254] trivial zL ?_;((try refine zW ?_);(try with_reducible exact Ka)));have t0:(L.take 0).map (λl=>(⟨l,ctl 1 e⟩:Ou))= []:=by rw[Kf];rfl
  refine qac 200 200 (λi:Nat=>i<=L.length)
   (λi=>⟨43, [(2,sci .i64 e),(4, .ptr 1 0 0 0),(6, .ptr 2 0 0 0),(7,sci .i64 1),(8,lI L),(9,sci .i64 i)], [],4, [(3, .arr 10 (i) (ir eOu ((L.take i).map (λl=>(⟨l,ctl 1 e⟩:Ou))))),(1, .arr 32 0 [tRow ⟨x.h,x.m,x.u,x.t, [],0,x.told,x.seen⟩ (.ref 3 (i) 0 (i)) (nil0) (nil0) 0]),(2, .arr 32 0 [[sci .i64 0,sci .i64 0,sci .i64 0,nil0,nil0,sci .i64 0,nil0,sci .i64 0,sci .i64 0,sci .i64 0,nil0,nil0,nil0,sci .i64 0,sci .i64 0,sci .i64 0,sci .i64 0,nil0,nil0,nil0,sci .i64 0,sci .i64 0,sci .i64 0,nil0,nil0,sci .i64 0,sci .i64 0,nil0,nil0,nil0,nil0,sci .i64 0]]),(0, .arr 4 0 [[sci .i64 N, .p (.imm 2 (pr eII ls)), .p (.imm 2 (pr eNd T)),scb Y]])]⟩) (λi=>L.length - i) (0) [] ?_ ?_ ?_
  .simp
  .constructor<;>(try simp(maxSteps:=2000000) (disch:=omega) only[go_sem,simprocAttr,zD,zE,Kt,Kc,Kb,t0,Kg,Ko])
  .rintro i hi;refine zV ?_;by_cases li:i < L.length
   .have hsn:(L.take (i+1)).map (λl=>(⟨l,ctl 1 e⟩:Ou))=((L.take i).map (λl=>(⟨l,ctl 1 e⟩:Ou)))++ [⟨L[i],ctl 1 e⟩]:=by
     rw[Kh li,Ki];rfl
    have hlen:((L.take i).map (λl=>(⟨l,ctl 1 e⟩:Ou))).length=i:=wj
    have htk:((L.take i).map (λl=>(⟨l,ctl 1 e⟩:Ou))).take (i)=(L.take i).map (λl=>(⟨l,ctl 1 e⟩:Ou)):=Kc wa;generalize (L.take i).map (λl=>(⟨l,ctl 1 e⟩:Ou))=A at *;generalize hB:(L.take (i+1)).map (λl=>(⟨l,ctl 1 e⟩:Ou))=B at *;simp only[ctl] at hB hsn;(try simp(maxSteps:=2000000) (disch:=omega) only[go_sem,simprocAttr,zD,zE,eI]);(refine zM [2,4,6,7,8,9,254] ?_;refine zI [U,U,U,U,U,U,U,U,U,U,V [0,1],V [],U,V []] ?_);(try simp(maxSteps:=2000000) (disch:=omega) only[go_sem,simprocAttr,zD,zE,eI,hlen,htk]);refine⟨i+1, [],wd,?_,?_⟩
    ·(try simp only[]);omega
    .constructor<;>(try simp(maxSteps:=2000000) (disch:=omega) only[go_sem,simprocAttr,zD,zE,hB,hsn,ir_snoc,eOu,ctl,hlen,htk,Kd,Ke,Kp,Kb])
   .obtain rfl:i=L.length:=wa
    rw[Kj];refine zP ?_;refine⟨[3],⟨rfl,wD⟩,rfl,rfl,rfl,qaB _⟩
def qkA(N:Int)(ls:List (Int × Int))(T:List Nd)(ff:Bool)(x:No)(t:Int)(h:NOk N ls T t x)(hb:t<=1000)(hup:UpOk x)(hl:ls.length<=1000000):
  Pure prog 199 [lAp N ls T ff,lTo x nil0 nil0 nil0 0] (lTq (qak ls ff ⟨x, [], [], [],0⟩)):=by
 have hSt:=qeK x.t x.t.epoch;have hmo:=h.mo;have gm:=h.gm.g hb;have gu:=h.gu.g hb;have h6:=h.got6;have hD:=qgt x.m x.t.epoch (by have:=gm.inn;omega);have hU:=qgu x.u x.t.epoch;have hBk:=qcn N ls x.t.up hl;have hM: ∀p,Pure prog 257 [lPs x.got, .p (.imm 6 [ePc p])] (.tup [lPs (mrg x.got [p]).1,sci .i64 (mrg x.got [p]).2]):=λp=>by
  rw[<-mD_mrg];exact qd1 x.got [p] wj
 unfold UpOk at hup;clear h gm gu;cases ff
 .have hct:qbx Z x↔(x.told < x.t.epoch/\x.t.epoch<=x.u.epoch/\x.t.wait < 1/\x.heard=x.t.kids.length):=by simp[qbx,qb6]
  have how:ownP Z x=x.u.p:=rfl;have hMp:=hM x.u.p;by_cases hc:qbx Z x
  rotate_left
  .have z:qak ls Z ⟨x, [], [], [],0⟩=⟨x, [], [], [],0⟩:=wT
   rw[z];rw[hct] at hc;clear z hct how hM hMp;obtain⟨⟨h1,h2,h3,h4,h5⟩,⟨m1,m2,⟨m3,m4,m5,m6,m7,m8⟩⟩,⟨u1,⟨u2,u3,u4,u5,u6,u7⟩⟩,⟨t1,t2,t3,t4⟩,got,heard,told,seen⟩:=x;simp only at hc hSt hD hU;refine pcall0 200 (fn:=f199) func199 rfl wo zB zB λhs=>?_;refine zV ?_;by_cases c1:t1<=told
   ·((try refine zO ?_);(try with_reducible exact Ka))
   refine zP ?_;(refine zG ?_;refine qaa (hSt) zB ?_;refine zV ?_);by_cases c3:t3 < 1
   rotate_left
   .have e3:tB (qbn ⟨t1,t2,t3,t4⟩ t1)=Z:=qah λq=>c3 q.2
    (try simp(maxSteps:=2000000) (disch:=omega) only[go_sem,simprocAttr,zD,zE,e3])
   have e3:tB (qbn ⟨t1,t2,t3,t4⟩ t1)=Y:=qaj ⟨rfl,c3⟩;refine zS e3 ?_;by_cases c4:heard=t4.length
   rotate_left
   ·(try simp(maxSteps:=2000000) (disch:=omega) only[go_sem,simprocAttr,zD,zE,c4])
   have c2: ¬(t1<=u1):=λq=>hc ⟨wa,q,c3,c4⟩
   have e2:=decide_eq_false c2;refine zS c4 ?_;(refine zG ?_;refine qaa (hU) zB ?_);(try simp(maxSteps:=2000000) (disch:=omega) only[go_sem,simprocAttr,zD,zE,e2])
  obtain⟨c1,c2,c3,c4⟩:=hct.1 hc;have e2:=decide_eq_true c2;by_cases c5:(mrg x.got [x.u.p]).2=0
  rotate_left
  .have z:qak ls Z ⟨x, [], [], [],0⟩=errT (mrg x.got [x.u.p]).2:=wI
   rw[z];clear z hct how hM hc;generalize mrg x.got [x.u.p]=r at *;obtain⟨all,bad⟩:=r;obtain⟨⟨h1,h2,h3,h4,h5⟩,⟨m1,m2,⟨m3,m4,m5,m6,m7,m8⟩⟩,⟨u1,⟨u2,u3,u4,u5,u6,u7⟩⟩,⟨t1,t2,t3,t4⟩,got,heard,told,seen⟩:=x;simp only at c1 c2 c3 c4 c5 hSt hD hU hMp hBk e2 hup;subst c4;have e3:tB (qbn ⟨t1,t2,t3,t4⟩ t1)=Y:=qaj ⟨rfl,c3⟩;refine pcall0 200 (fn:=f199) func199 rfl wo zB zB λhs=>?_;refine zP ?_;(refine zG ?_;refine qaa (hSt) zB ?_);refine zS e3 ?_;(refine zG ?_;refine qaa (hU) zB ?_);refine zS e2 ?_;(refine zG ?_;refine qaa (hMp) zB ?_);(try simp(maxSteps:=2000000) (disch:=omega) only[go_sem,simprocAttr,zD,zE,c5,errT,zNo,zHs,zMk,zHu,zTr,zPc])
  by_cases c6:x.t.up < 0
  .have z:qak ls Z ⟨x, [], [], [],0⟩=⟨setTold x x.t.epoch, [],(mrg x.got [x.u.p]).1, [],0⟩:=wv
   rw[z];have c7:=hup c6;clear z hct how hM hc;rw[c5] at hMp;generalize (mrg x.got [x.u.p]).1=all at *;obtain⟨⟨h1,h2,h3,h4,h5⟩,⟨m1,m2,⟨m3,m4,m5,m6,m7,m8⟩⟩,⟨u1,⟨u2,u3,u4,u5,u6,u7⟩⟩,⟨t1,t2,t3,t4⟩,got,heard,told,seen⟩:=x;simp only at c1 c2 c3 c4 hSt hD hU hMp hBk e2 hup;subst c4;have e3:tB (qbn ⟨t1,t2,t3,t4⟩ t1)=Y:=qaj ⟨rfl,c3⟩;subst c7;refine pcall0 200 (fn:=f199) func199 rfl wo zB zB λhs=>?_;refine zP ?_;(refine zG ?_;refine qaa (hSt) zB ?_);refine zS e3 ?_;(refine zG ?_;refine qaa (hU) zB ?_);refine zS e2 ?_;(refine zG ?_;refine qaa (hMp) zB ?_);(try simp(maxSteps:=2000000) (disch:=omega) only[go_sem,simprocAttr,zD,zE,setTold])
  .have z:qak ls Z ⟨x, [], [], [],0⟩=⟨setTold x x.t.epoch, []++ [⟨backL ls x.t.up,⟨5,x.t.epoch,(0,0),(mrg x.got [x.u.p]).1,0,0,0, []⟩⟩], [], [],0⟩:=ww
   rw[z];have c7: ¬x.t.up= -1:=wa
   clear z hct how hM hc;rw[c5] at hMp;generalize (mrg x.got [x.u.p]).1=all at *;generalize backL ls x.t.up=bk at *;obtain⟨⟨h1,h2,h3,h4,h5⟩,⟨m1,m2,⟨m3,m4,m5,m6,m7,m8⟩⟩,⟨u1,⟨u2,u3,u4,u5,u6,u7⟩⟩,⟨t1,t2,t3,t4⟩,got,heard,told,seen⟩:=x;simp only at c1 c2 c3 c4 hSt hD hU hMp hBk e2 hup;subst c4;have e3:tB (qbn ⟨t1,t2,t3,t4⟩ t1)=Y:=qaj ⟨rfl,c3⟩;refine pcall0 200 (fn:=f199) func199 rfl wo zB zB λhs=>?_;refine zP ?_;(refine zG ?_;refine qaa (hSt) zB ?_);refine zS e3 ?_;(refine zG ?_;refine qaa (hU) zB ?_);refine zS e2 ?_;(refine zG ?_;refine qaa (hMp) zB ?_);(try simp(maxSteps:=2000000) (disch:=omega) only[go_sem,simprocAttr,zD,zE,c7,setTold]);refine walk_ownB 1 0 28 10 trivial rfl rfl rfl (.inr rfl) ?_;simp only[Kk,Kl,Kq];(refine zM [2,3,4,5,7,254] ?_;refine irun_walk (id:=14) (n:=0) [U,U,U,U,U,U,U,U,V [0,1,9,10,11],U,U,U,U,V [0,1],V [],U,V []] mixed wb ?_);(try simp(maxSteps:=2000000) (disch:=omega) only[go_sem,simprocAttr,zD,zE,c7,setTold,eOu]);(refine zF ?_;refine qaa (hBk) zB ?_);(try simp(maxSteps:=2000000) (disch:=omega) only[go_sem,simprocAttr,zD,zE,c7,setTold,eOu]);have hone:ir eOu [(⟨bk,⟨5,t1,(0,0),all,0,0,0, []⟩⟩:Ou)]= [(eOu ⟨bk,⟨5,t1,(0,0),all,0,0,0, []⟩⟩).map IV.p]:=rfl;rw[qbG];refine qaF 200 [] ⟨114, [(3, .ptr 1 0 0 0),(4, .ptr 2 0 0 0)], [],5, [(1, .arr 32 0 [tRow (setTold ⟨⟨h1,h2,h3,h4,h5⟩,⟨m1,m2,⟨m3,m4,m5,m6,m7,m8⟩⟩,⟨u1,⟨u2,u3,u4,u5,u6,u7⟩⟩,⟨t1,t2,t3,t4⟩,got,(t4.length:Int),told,seen⟩ t1) (.ref 4 1 0 1) nil0 nil0 0]),(4, .arr 10 1 (ir eOu [⟨bk,⟨5,t1,(0,0),all,0,0,0, []⟩⟩])),(2, .arr 32 0 [[sci .i64 0,sci .i64 0,sci .i64 0,nil0,nil0,sci .i64 0,nil0,sci .i64 0,sci .i64 0,sci .i64 0,nil0,nil0,nil0,sci .i64 0,sci .i64 0,sci .i64 0,sci .i64 0,nil0,nil0,nil0,sci .i64 0,sci .i64 0,sci .i64 0,nil0,nil0,sci .i64 0,sci .i64 0,nil0,nil0,nil0,nil0,sci .i64 0]])]⟩ trivial ?_ ?_
   .constructor<;>(try simp(maxSteps:=2000000) (disch:=omega) only[go_sem,simprocAttr,zD,zE,hone,eOu,setTold,ir_snoc,Kd,Ke])
   (try simp(maxSteps:=2000000) (disch:=omega) only[go_sem,simprocAttr,zD,zE,setTold])
 .have hct:qbx Y x↔(x.told < x.t.epoch/\qct x.m x.t.epoch/\x.t.wait < 1/\x.heard=x.t.kids.length):=by simp[qbx,qb6]
  have how:ownP Y x=x.m.p:=rfl;have hMp:=hM x.m.p;by_cases hc:qbx Y x
  rotate_left
  .have z:qak ls Y ⟨x, [], [], [],0⟩=⟨x, [], [], [],0⟩:=wT
   rw[z];rw[hct] at hc;clear z hct how hM hMp;obtain⟨⟨h1,h2,h3,h4,h5⟩,⟨m1,m2,⟨m3,m4,m5,m6,m7,m8⟩⟩,⟨u1,⟨u2,u3,u4,u5,u6,u7⟩⟩,⟨t1,t2,t3,t4⟩,got,heard,told,seen⟩:=x;simp only at hc hSt hD hU;refine pcall0 200 (fn:=f199) func199 rfl wo zB zB λhs=>?_;refine zV ?_;by_cases c1:t1<=told
   ·((try refine zO ?_);(try with_reducible exact Ka))
   refine zP ?_;(refine zG ?_;refine qaa (hSt) zB ?_;refine zV ?_);by_cases c3:t3 < 1
   rotate_left
   .have e3:tB (qbn ⟨t1,t2,t3,t4⟩ t1)=Z:=qah λq=>c3 q.2
    (try simp(maxSteps:=2000000) (disch:=omega) only[go_sem,simprocAttr,zD,zE,e3])
   have e3:tB (qbn ⟨t1,t2,t3,t4⟩ t1)=Y:=qaj ⟨rfl,c3⟩;refine zS e3 ?_;by_cases c4:heard=t4.length
   rotate_left
   ·(try simp(maxSteps:=2000000) (disch:=omega) only[go_sem,simprocAttr,zD,zE,c4])
   have c2: ¬(qct ⟨m1,m2,⟨m3,m4,m5,m6,m7,m8⟩⟩ t1):=λq=>hc ⟨wa,q,c3,c4⟩
   have e2:=qah c2;refine zS c4 ?_;(refine zG ?_;refine qaa (hD) zB ?_);(try simp(maxSteps:=2000000) (disch:=omega) only[go_sem,simprocAttr,zD,zE,e2])
  obtain⟨c1,c2,c3,c4⟩:=hct.1 hc;have e2:=qaj c2;by_cases c5:(mrg x.got [x.m.p]).2=0
  rotate_left
  .have z:qak ls Y ⟨x, [], [], [],0⟩=errT (mrg x.got [x.m.p]).2:=wI
   rw[z];clear z hct how hM hc;generalize mrg x.got [x.m.p]=r at *;obtain⟨all,bad⟩:=r;obtain⟨⟨h1,h2,h3,h4,h5⟩,⟨m1,m2,⟨m3,m4,m5,m6,m7,m8⟩⟩,⟨u1,⟨u2,u3,u4,u5,u6,u7⟩⟩,⟨t1,t2,t3,t4⟩,got,heard,told,seen⟩:=x;simp only at c1 c2 c3 c4 c5 hSt hD hU hMp hBk e2 hup;subst c4;have e3:tB (qbn ⟨t1,t2,t3,t4⟩ t1)=Y:=qaj ⟨rfl,c3⟩;refine pcall0 200 (fn:=f199) func199 rfl wo zB zB λhs=>?_;refine zP ?_;(refine zG ?_;refine qaa (hSt) zB ?_);refine zS e3 ?_;(refine zG ?_;refine qaa (hD) zB ?_);refine zS e2 ?_;(refine zG ?_;refine qaa (hMp) zB ?_);(try simp(maxSteps:=2000000) (disch:=omega) only[go_sem,simprocAttr,zD,zE,c5,errT,zNo,zHs,zMk,zHu,zTr,zPc])
  by_cases c6:x.t.up < 0
  .have z:qak ls Y ⟨x, [], [], [],0⟩=⟨setTold x x.t.epoch, [],(mrg x.got [x.m.p]).1, [],0⟩:=wv
   rw[z];have c7:=hup c6;clear z hct how hM hc;rw[c5] at hMp;generalize (mrg x.got [x.m.p]).1=all at *;obtain⟨⟨h1,h2,h3,h4,h5⟩,⟨m1,m2,⟨m3,m4,m5,m6,m7,m8⟩⟩,⟨u1,⟨u2,u3,u4,u5,u6,u7⟩⟩,⟨t1,t2,t3,t4⟩,got,heard,told,seen⟩:=x;simp only at c1 c2 c3 c4 hSt hD hU hMp hBk e2 hup;subst c4;have e3:tB (qbn ⟨t1,t2,t3,t4⟩ t1)=Y:=qaj ⟨rfl,c3⟩;subst c7;refine pcall0 200 (fn:=f199) func199 rfl wo zB zB λhs=>?_;refine zP ?_;(refine zG ?_;refine qaa (hSt) zB ?_);refine zS e3 ?_;(refine zG ?_;refine qaa (hD) zB ?_);refine zS e2 ?_;(refine zG ?_;refine qaa (hMp) zB ?_);(try simp(maxSteps:=2000000) (disch:=omega) only[go_sem,simprocAttr,zD,zE,setTold])
  .have z:qak ls Y ⟨x, [], [], [],0⟩=⟨setTold x x.t.epoch, []++ [⟨backL ls x.t.up,⟨5,x.t.epoch,(0,0),(mrg x.got [x.m.p]).1,0,0,0, []⟩⟩], [], [],0⟩:=ww
   rw[z];have c7: ¬x.t.up= -1:=wa
   clear z hct how hM hc;rw[c5] at hMp;generalize (mrg x.got [x.m.p]).1=all at *;generalize backL ls x.t.up=bk at *;obtain⟨⟨h1,h2,h3,h4,h5⟩,⟨m1,m2,⟨m3,m4,m5,m6,m7,m8⟩⟩,⟨u1,⟨u2,u3,u4,u5,u6,u7⟩⟩,⟨t1,t2,t3,t4⟩,got,heard,told,seen⟩:=x;simp only at c1 c2 c3 c4 hSt hD hU hMp hBk e2 hup;subst c4;have e3:tB (qbn ⟨t1,t2,t3,t4⟩ t1)=Y:=qaj ⟨rfl,c3⟩;refine pcall0 200 (fn:=f199) func199 rfl wo zB zB λhs=>?_;refine zP ?_;(refine zG ?_;refine qaa (hSt) zB ?_);refine zS e3 ?_;(refine zG ?_;refine qaa (hD) zB ?_);refine zS e2 ?_;(refine zG ?_;refine qaa (hMp) zB ?_);(try simp(maxSteps:=2000000) (disch:=omega) only[go_sem,simprocAttr,zD,zE,c7,setTold]);refine walk_ownB 1 0 28 10 trivial rfl rfl rfl (.inr rfl) ?_;simp only[Kk,Kl,Kq];(refine zM [2,3,4,5,7,254] ?_;refine irun_walk (id:=14) (n:=0) [U,U,U,U,U,U,U,U,V [0,1,9,10,11],U,U,U,U,V [0,1],V [],U,V []] mixed wb ?_);(try simp(maxSteps:=2000000) (disch:=omega) only[go_sem,simprocAttr,zD,zE,c7,setTold,eOu]);(refine zF ?_;refine qaa (hBk) zB ?_);(try simp(maxSteps:=2000000) (disch:=omega) only[go_sem,simprocAttr,zD,zE,c7,setTold,eOu]);have hone:ir eOu [(⟨bk,⟨5,t1,(0,0),all,0,0,0, []⟩⟩:Ou)]= [(eOu ⟨bk,⟨5,t1,(0,0),all,0,0,0, []⟩⟩).map IV.p]:=rfl;rw[qbG];refine qaF 200 [] ⟨114, [(3, .ptr 1 0 0 0),(4, .ptr 2 0 0 0)], [],5, [(1, .arr 32 0 [tRow (setTold ⟨⟨h1,h2,h3,h4,h5⟩,⟨m1,m2,⟨m3,m4,m5,m6,m7,m8⟩⟩,⟨u1,⟨u2,u3,u4,u5,u6,u7⟩⟩,⟨t1,t2,t3,t4⟩,got,(t4.length:Int),told,seen⟩ t1) (.ref 4 1 0 1) nil0 nil0 0]),(4, .arr 10 1 (ir eOu [⟨bk,⟨5,t1,(0,0),all,0,0,0, []⟩⟩])),(2, .arr 32 0 [[sci .i64 0,sci .i64 0,sci .i64 0,nil0,nil0,sci .i64 0,nil0,sci .i64 0,sci .i64 0,sci .i64 0,nil0,nil0,nil0,sci .i64 0,sci .i64 0,sci .i64 0,sci .i64 0,nil0,nil0,nil0,sci .i64 0,sci .i64 0,sci .i64 0,nil0,nil0,sci .i64 0,sci .i64 0,nil0,nil0,nil0,nil0,sci .i64 0]])]⟩ trivial ?_ ?_
   .constructor<;>(try simp(maxSteps:=2000000) (disch:=omega) only[go_sem,simprocAttr,zD,zE,hone,eOu,setTold,ir_snoc,Kd,Ke])
   (try simp(maxSteps:=2000000) (disch:=omega) only[go_sem,simprocAttr,zD,zE,setTold])
def tRes(d:Td)(g k:Nat):IV:=if d.e=0 then lTo d.x (.ref 0 (g+(d.out.length - k)) 0 d.out.length) (lPs d.ps) (lI d.path) 0 else lTq (errT d.e)
def tBk(d:Td)(g:Nat)(o:List Ou):IBlk:=if d.e=0 then .arr 10 (g+(d.out.length - o.length)) (ir eOu d.out) else .arr 10 g (ir eOu o)
def qhk(N:Int)(ls:List (Int × Int))(T:List Nd)(ff:Bool)(x:No)(t:Int)(h:NOk N ls T t x)(hb:t<=1000)(hup:UpOk x)(hl:ls.length<=1000000)(g n:Nat)(o:List Ou)(ps:List Pc)(path:List Int)(ho:o.length=n)(hn:n<=1000):
  PG prog 199 [lAp N ls T ff,lTo x (.ref 0 g 0 n) (lPs ps) (lI path) 0] [.arr 10 g (ir eOu o)] 0 (tRes (qak ls ff ⟨x,o,ps,path,0⟩) g n) [(0,tBk (qak ls ff ⟨x,o,ps,path,0⟩) g o)]:=by
 subst ho;have hSt:=qeK x.t x.t.epoch;have hmo:=h.mo;have gm:=h.gm.g hb;have gu:=h.gu.g hb;have h6:=h.got6;have hD:=qgt x.m x.t.epoch (by have:=gm.inn;omega);have hU:=qgu x.u x.t.epoch;have hBk:=qcn N ls x.t.up hl;have hM: ∀p,Pure prog 257 [lPs x.got, .p (.imm 6 [ePc p])] (.tup [lPs (mrg x.got [p]).1,sci .i64 (mrg x.got [p]).2]):=λp=>by
  rw[<-mD_mrg];exact qd1 x.got [p] wj
 unfold UpOk at hup;clear h gm gu;cases ff
 .have hct:qbx Z x↔(x.told < x.t.epoch/\x.t.epoch<=x.u.epoch/\x.t.wait < 1/\x.heard=x.t.kids.length):=by simp[qbx,qb6]
  have how:ownP Z x=x.u.p:=rfl;have hMp:=hM x.u.p;by_cases hc:qbx Z x
  rotate_left
  .have z:qak ls Z ⟨x,o,ps,path,0⟩=⟨x,o,ps,path,0⟩:=wT
   rw[z];simp only[tRes,tBk,if_true,Kr,Ko];rw[hct] at hc;clear z hct how hM hMp;obtain⟨⟨h1,h2,h3,h4,h5⟩,⟨m1,m2,⟨m3,m4,m5,m6,m7,m8⟩⟩,⟨u1,⟨u2,u3,u4,u5,u6,u7⟩⟩,⟨t1,t2,t3,t4⟩,got,heard,told,seen⟩:=x;simp only at hc hSt hD hU;refine pg_of 200 (fn:=f199) func199 rfl wo 1 rfl zC zC zC zC zC λhs=>?_;refine zV ?_;by_cases c1:t1<=told
   ·((try refine zO ?_);(try with_reducible exact Ka))
   refine zP ?_;(refine zG ?_;refine qaa (hSt) zB ?_;refine zV ?_);by_cases c3:t3 < 1
   rotate_left
   .have e3:tB (qbn ⟨t1,t2,t3,t4⟩ t1)=Z:=qah λq=>c3 q.2
    (try simp(maxSteps:=2000000) (disch:=omega) only[go_sem,simprocAttr,zD,zE,e3])
   have e3:tB (qbn ⟨t1,t2,t3,t4⟩ t1)=Y:=qaj ⟨rfl,c3⟩;refine zS e3 ?_;by_cases c4:heard=t4.length
   rotate_left
   ·(try simp(maxSteps:=2000000) (disch:=omega) only[go_sem,simprocAttr,zD,zE,c4])
   have c2: ¬(t1<=u1):=λq=>hc ⟨wa,q,c3,c4⟩
   have e2:=decide_eq_false c2;refine zS c4 ?_;(refine zG ?_;refine qaa (hU) zB ?_);(try simp(maxSteps:=2000000) (disch:=omega) only[go_sem,simprocAttr,zD,zE,e2])
  obtain⟨c1,c2,c3,c4⟩:=hct.1 hc;have e2:=decide_eq_true c2;by_cases c5:(mrg x.got [x.u.p]).2=0
  rotate_left
  .have z:qak ls Z ⟨x,o,ps,path,0⟩=errT (mrg x.got [x.u.p]).2:=wI
   rw[z];simp only[tRes,tBk,show ¬(errT (mrg x.got [x.u.p]).2).e=0 from c5,if_false];clear z hct how hM hc;generalize mrg x.got [x.u.p]=r at *;obtain⟨all,bad⟩:=r;obtain⟨⟨h1,h2,h3,h4,h5⟩,⟨m1,m2,⟨m3,m4,m5,m6,m7,m8⟩⟩,⟨u1,⟨u2,u3,u4,u5,u6,u7⟩⟩,⟨t1,t2,t3,t4⟩,got,heard,told,seen⟩:=x;simp only at c1 c2 c3 c4 c5 hSt hD hU hMp hBk e2 hup;subst c4;have e3:tB (qbn ⟨t1,t2,t3,t4⟩ t1)=Y:=qaj ⟨rfl,c3⟩;refine pg_of 200 (fn:=f199) func199 rfl wo 1 rfl zC zC zC zC zC λhs=>?_;refine zP ?_;(refine zG ?_;refine qaa (hSt) zB ?_);refine zS e3 ?_;(refine zG ?_;refine qaa (hU) zB ?_);refine zS e2 ?_;(refine zG ?_;refine qaa (hMp) zB ?_);(try simp(maxSteps:=2000000) (disch:=omega) only[go_sem,simprocAttr,zD,zE,c5,errT,zNo,zHs,zMk,zHu,zTr,zPc])
  by_cases c6:x.t.up < 0
  .have z:qak ls Z ⟨x,o,ps,path,0⟩=⟨setTold x x.t.epoch,o,(mrg x.got [x.u.p]).1,path,0⟩:=wv
   rw[z];simp only[tRes,tBk,if_true,Kr,Ko];have c7:=hup c6;clear z hct how hM hc;rw[c5] at hMp;generalize (mrg x.got [x.u.p]).1=all at *;obtain⟨⟨h1,h2,h3,h4,h5⟩,⟨m1,m2,⟨m3,m4,m5,m6,m7,m8⟩⟩,⟨u1,⟨u2,u3,u4,u5,u6,u7⟩⟩,⟨t1,t2,t3,t4⟩,got,heard,told,seen⟩:=x;simp only at c1 c2 c3 c4 hSt hD hU hMp hBk e2 hup;subst c4;have e3:tB (qbn ⟨t1,t2,t3,t4⟩ t1)=Y:=qaj ⟨rfl,c3⟩;subst c7;refine pg_of 200 (fn:=f199) func199 rfl wo 1 rfl zC zC zC zC zC λhs=>?_;refine zP ?_;(refine zG ?_;refine qaa (hSt) zB ?_);refine zS e3 ?_;(refine zG ?_;refine qaa (hU) zB ?_);refine zS e2 ?_;(refine zG ?_;refine qaa (hMp) zB ?_);(try simp(maxSteps:=2000000) (disch:=omega) only[go_sem,simprocAttr,zD,zE,setTold])
  .have z:qak ls Z ⟨x,o,ps,path,0⟩=⟨setTold x x.t.epoch,o++ [⟨backL ls x.t.up,⟨5,x.t.epoch,(0,0),(mrg x.got [x.u.p]).1,0,0,0, []⟩⟩],ps,path,0⟩:=ww
   rw[z];simp only[tRes,tBk,if_true,Km,Kn,Ks];have c7: ¬x.t.up= -1:=wa
   clear z hct how hM hc;rw[c5] at hMp;generalize (mrg x.got [x.u.p]).1=all at *;generalize backL ls x.t.up=bk at *;obtain⟨⟨h1,h2,h3,h4,h5⟩,⟨m1,m2,⟨m3,m4,m5,m6,m7,m8⟩⟩,⟨u1,⟨u2,u3,u4,u5,u6,u7⟩⟩,⟨t1,t2,t3,t4⟩,got,heard,told,seen⟩:=x;simp only at c1 c2 c3 c4 hSt hD hU hMp hBk e2 hup;subst c4;have e3:tB (qbn ⟨t1,t2,t3,t4⟩ t1)=Y:=qaj ⟨rfl,c3⟩;refine pg_of 200 (fn:=f199) func199 rfl wo 1 rfl zC zC zC zC zC λhs=>?_;refine zP ?_;(refine zG ?_;refine qaa (hSt) zB ?_);refine zS e3 ?_;(refine zG ?_;refine qaa (hU) zB ?_);refine zS e2 ?_;(refine zG ?_;refine qaa (hMp) zB ?_);(try simp(maxSteps:=2000000) (disch:=omega) only[go_sem,simprocAttr,zD,zE,c7,setTold]);(refine zM [2,3,4,5,7,254] ?_;refine irun_walk (id:=14) (n:=0) [U,U,U,U,U,U,U,U,V [0,1,9,10,11],U,U,U,U,V [0,1],V [],U,V []] mixed wb ?_);(try simp(maxSteps:=2000000) (disch:=omega) only[go_sem,simprocAttr,zD,zE,c7,setTold,eOu]);(refine zF ?_;refine qaa (hBk) zB ?_);(try simp(maxSteps:=2000000) (disch:=omega) only[go_sem,simprocAttr,zD,zE,c7,setTold,eOu]);have hone:ir eOu [(⟨bk,⟨5,t1,(0,0),all,0,0,0, []⟩⟩:Ou)]= [(eOu ⟨bk,⟨5,t1,(0,0),all,0,0,0, []⟩⟩).map IV.p]:=rfl;rw[qbG];refine qaF 200 [] ⟨114, [(3, .ptr 2 0 0 0),(4, .ptr 3 0 0 0)], [],5, [(2, .arr 32 0 [tRow (setTold ⟨⟨h1,h2,h3,h4,h5⟩,⟨m1,m2,⟨m3,m4,m5,m6,m7,m8⟩⟩,⟨u1,⟨u2,u3,u4,u5,u6,u7⟩⟩,⟨t1,t2,t3,t4⟩,got,(t4.length:Int),told,seen⟩ t1) (.ref 0 (g+1) 0 (o.length+1)) (lPs ps) (lI path) 0]),(0, .arr 10 (g+1) (ir eOu (o++ [⟨bk,⟨5,t1,(0,0),all,0,0,0, []⟩⟩]))),(3, .arr 32 0 [[sci .i64 0,sci .i64 0,sci .i64 0,nil0,nil0,sci .i64 0,nil0,sci .i64 0,sci .i64 0,sci .i64 0,nil0,nil0,nil0,sci .i64 0,sci .i64 0,sci .i64 0,sci .i64 0,nil0,nil0,nil0,sci .i64 0,sci .i64 0,sci .i64 0,nil0,nil0,sci .i64 0,sci .i64 0,nil0,nil0,nil0,nil0,sci .i64 0]])]⟩ trivial ?_ ?_
   .constructor<;>(try simp(maxSteps:=2000000) (disch:=omega) only[go_sem,simprocAttr,zD,zE,hone,eOu,setTold,ir_snoc,Kd,Ke])
   (try simp(maxSteps:=2000000) (disch:=omega) only[go_sem,simprocAttr,zD,zE,setTold])
 .have hct:qbx Y x↔(x.told < x.t.epoch/\qct x.m x.t.epoch/\x.t.wait < 1/\x.heard=x.t.kids.length):=by simp[qbx,qb6]
  have how:ownP Y x=x.m.p:=rfl;have hMp:=hM x.m.p;by_cases hc:qbx Y x
  rotate_left
  .have z:qak ls Y ⟨x,o,ps,path,0⟩=⟨x,o,ps,path,0⟩:=wT
   rw[z];simp only[tRes,tBk,if_true,Kr,Ko];rw[hct] at hc;clear z hct how hM hMp;obtain⟨⟨h1,h2,h3,h4,h5⟩,⟨m1,m2,⟨m3,m4,m5,m6,m7,m8⟩⟩,⟨u1,⟨u2,u3,u4,u5,u6,u7⟩⟩,⟨t1,t2,t3,t4⟩,got,heard,told,seen⟩:=x;simp only at hc hSt hD hU;refine pg_of 200 (fn:=f199) func199 rfl wo 1 rfl zC zC zC zC zC λhs=>?_;refine zV ?_;by_cases c1:t1<=told
   ·((try refine zO ?_);(try with_reducible exact Ka))
   refine zP ?_;(refine zG ?_;refine qaa (hSt) zB ?_;refine zV ?_);by_cases c3:t3 < 1
   rotate_left
   .have e3:tB (qbn ⟨t1,t2,t3,t4⟩ t1)=Z:=qah λq=>c3 q.2
    (try simp(maxSteps:=2000000) (disch:=omega) only[go_sem,simprocAttr,zD,zE,e3])
   have e3:tB (qbn ⟨t1,t2,t3,t4⟩ t1)=Y:=qaj ⟨rfl,c3⟩;refine zS e3 ?_;by_cases c4:heard=t4.length
   rotate_left
   ·(try simp(maxSteps:=2000000) (disch:=omega) only[go_sem,simprocAttr,zD,zE,c4])
   have c2: ¬(qct ⟨m1,m2,⟨m3,m4,m5,m6,m7,m8⟩⟩ t1):=λq=>hc ⟨wa,q,c3,c4⟩
   have e2:=qah c2;refine zS c4 ?_;(refine zG ?_;refine qaa (hD) zB ?_);(try simp(maxSteps:=2000000) (disch:=omega) only[go_sem,simprocAttr,zD,zE,e2])
  obtain⟨c1,c2,c3,c4⟩:=hct.1 hc;have e2:=qaj c2;by_cases c5:(mrg x.got [x.m.p]).2=0
  rotate_left
  .have z:qak ls Y ⟨x,o,ps,path,0⟩=errT (mrg x.got [x.m.p]).2:=wI
   rw[z];simp only[tRes,tBk,show ¬(errT (mrg x.got [x.m.p]).2).e=0 from c5,if_false];clear z hct how hM hc;generalize mrg x.got [x.m.p]=r at *;obtain⟨all,bad⟩:=r;obtain⟨⟨h1,h2,h3,h4,h5⟩,⟨m1,m2,⟨m3,m4,m5,m6,m7,m8⟩⟩,⟨u1,⟨u2,u3,u4,u5,u6,u7⟩⟩,⟨t1,t2,t3,t4⟩,got,heard,told,seen⟩:=x;simp only at c1 c2 c3 c4 c5 hSt hD hU hMp hBk e2 hup;subst c4;have e3:tB (qbn ⟨t1,t2,t3,t4⟩ t1)=Y:=qaj ⟨rfl,c3⟩;refine pg_of 200 (fn:=f199) func199 rfl wo 1 rfl zC zC zC zC zC λhs=>?_;refine zP ?_;(refine zG ?_;refine qaa (hSt) zB ?_);refine zS e3 ?_;(refine zG ?_;refine qaa (hD) zB ?_);refine zS e2 ?_;(refine zG ?_;refine qaa (hMp) zB ?_);(try simp(maxSteps:=2000000) (disch:=omega) only[go_sem,simprocAttr,zD,zE,c5,errT,zNo,zHs,zMk,zHu,zTr,zPc])
  by_cases c6:x.t.up < 0
  .have z:qak ls Y ⟨x,o,ps,path,0⟩=⟨setTold x x.t.epoch,o,(mrg x.got [x.m.p]).1,path,0⟩:=wv
   rw[z];simp only[tRes,tBk,if_true,Kr,Ko];have c7:=hup c6;clear z hct how hM hc;rw[c5] at hMp;generalize (mrg x.got [x.m.p]).1=all at *;obtain⟨⟨h1,h2,h3,h4,h5⟩,⟨m1,m2,⟨m3,m4,m5,m6,m7,m8⟩⟩,⟨u1,⟨u2,u3,u4,u5,u6,u7⟩⟩,⟨t1,t2,t3,t4⟩,got,heard,told,seen⟩:=x;simp only at c1 c2 c3 c4 hSt hD hU hMp hBk e2 hup;subst c4;have e3:tB (qbn ⟨t1,t2,t3,t4⟩ t1)=Y:=qaj ⟨rfl,c3⟩;subst c7;refine pg_of 200 (fn:=f199) func199 rfl wo 1 rfl zC zC zC zC zC λhs=>?_;refine zP ?_;(refine zG ?_;refine qaa (hSt) zB ?_);refine zS e3 ?_;(refine zG ?_;refine qaa (hD) zB ?_);refine zS e2 ?_;(refine zG ?_;refine qaa (hMp) zB ?_);(try simp(maxSteps:=2000000) (disch:=omega) only[go_sem,simprocAttr,zD,zE,setTold])
  .have z:qak ls Y ⟨x,o,ps,path,0⟩=⟨setTold x x.t.epoch,o++ [⟨backL ls x.t.up,⟨5,x.t.epoch,(0,0),(mrg x.got [x.m.p]).1,0,0,0, []⟩⟩],ps,path,0⟩:=ww
   rw[z];simp only[tRes,tBk,if_true,Km,Kn,Ks];have c7: ¬x.t.up= -1:=wa
   clear z hct how hM hc;rw[c5] at hMp;generalize (mrg x.got [x.m.p]).1=all at *;generalize backL ls x.t.up=bk at *;obtain⟨⟨h1,h2,h3,h4,h5⟩,⟨m1,m2,⟨m3,m4,m5,m6,m7,m8⟩⟩,⟨u1,⟨u2,u3,u4,u5,u6,u7⟩⟩,⟨t1,t2,t3,t4⟩,got,heard,told,seen⟩:=x;simp only at c1 c2 c3 c4 hSt hD hU hMp hBk e2 hup;subst c4;have e3:tB (qbn ⟨t1,t2,t3,t4⟩ t1)=Y:=qaj ⟨rfl,c3⟩;refine pg_of 200 (fn:=f199) func199 rfl wo 1 rfl zC zC zC zC zC λhs=>?_;refine zP ?_;(refine zG ?_;refine qaa (hSt) zB ?_);refine zS e3 ?_;(refine zG ?_;refine qaa (hD) zB ?_);refine zS e2 ?_;(refine zG ?_;refine qaa (hMp) zB ?_);(try simp(maxSteps:=2000000) (disch:=omega) only[go_sem,simprocAttr,zD,zE,c7,setTold]);(refine zM [2,3,4,5,7,254] ?_;refine irun_walk (id:=14) (n:=0) [U,U,U,U,U,U,U,U,V [0,1,9,10,11],U,U,U,U,V [0,1],V [],U,V []] mixed wb ?_);(try simp(maxSteps:=2000000) (disch:=omega) only[go_sem,simprocAttr,zD,zE,c7,setTold,eOu]);(refine zF ?_;refine qaa (hBk) zB ?_);(try simp(maxSteps:=2000000) (disch:=omega) only[go_sem,simprocAttr,zD,zE,c7,setTold,eOu]);have hone:ir eOu [(⟨bk,⟨5,t1,(0,0),all,0,0,0, []⟩⟩:Ou)]= [(eOu ⟨bk,⟨5,t1,(0,0),all,0,0,0, []⟩⟩).map IV.p]:=rfl;rw[qbG];refine qaF 200 [] ⟨114, [(3, .ptr 2 0 0 0),(4, .ptr 3 0 0 0)], [],5, [(2, .arr 32 0 [tRow (setTold ⟨⟨h1,h2,h3,h4,h5⟩,⟨m1,m2,⟨m3,m4,m5,m6,m7,m8⟩⟩,⟨u1,⟨u2,u3,u4,u5,u6,u7⟩⟩,⟨t1,t2,t3,t4⟩,got,(t4.length:Int),told,seen⟩ t1) (.ref 0 (g+1) 0 (o.length+1)) (lPs ps) (lI path) 0]),(0, .arr 10 (g+1) (ir eOu (o++ [⟨bk,⟨5,t1,(0,0),all,0,0,0, []⟩⟩]))),(3, .arr 32 0 [[sci .i64 0,sci .i64 0,sci .i64 0,nil0,nil0,sci .i64 0,nil0,sci .i64 0,sci .i64 0,sci .i64 0,nil0,nil0,nil0,sci .i64 0,sci .i64 0,sci .i64 0,sci .i64 0,nil0,nil0,nil0,sci .i64 0,sci .i64 0,sci .i64 0,nil0,nil0,sci .i64 0,sci .i64 0,nil0,nil0,nil0,nil0,sci .i64 0]])]⟩ trivial ?_ ?_
   .constructor<;>(try simp(maxSteps:=2000000) (disch:=omega) only[go_sem,simprocAttr,zD,zE,hone,eOu,setTold,ir_snoc,Kd,Ke])
   (try simp(maxSteps:=2000000) (disch:=omega) only[go_sem,simprocAttr,zD,zE,setTold])
end Go.Proofs.NO
