/- Facts leant on. -/
import Derived.Test.YtfhhdgkhajkapaaGreatNRh
import Derived.Test.YtfhhdgkhajkapaaGreatNWr
import Derived.Test.YtfhhdgkhajkapaaGreatNRa
set_option linter.all false
open List renaming take_of_length_le->Ka,length_map->Kb,append_assoc->Kc,take_succ_eq_append_getElem->Kd,getElem_map->Ke,set_cons_zero->Kf,set_cons_succ->Kg,take_zero->Kh,length_take->Ki,length_append->Kj,length_singleton->Kk,take_take->Kl,map_cons->Km,map_nil->Kn
open True renaming intro->Ko
open Nat renaming reduceAdd->Kp,min_self->Kq
open Int renaming natCast_zero->Kr
open Option renaming none->U,some->V
/- What a node picks: the program's and the document's. -/
namespace Go.Proofs.NO
open Go Go.Idl Go.Proofs Go.GP Go.Proofs.Tryz
set_option maxHeartbeats 0
set_option maxRecDepth 100000
def sOu(c:Int)(s:Int × Int × Int):Ou:=⟨s.1,⟨0,c,(s.2.1,s.2.2), [],0,0,0, []⟩⟩
def pick_err{ls:List (Int × Int)}{ff:Bool}{st:St}{x:No}{k:Int}(h:(pickN ls ff st x k).e≠0):pickN ls ff st x k=errT (pickN ls ff st x k).e:=by
 unfold pickN at h ⊢;split
 .rfl
 .rename_i c;rw[if_neg c] at h;exact absurd rfl h
def R18Pick_spec(N:Int)(ls:List (Int × Int))(T:List Nd)(ff:Bool)(x:No)(k:Int)(t:Int)(h:NOk N ls T t x)(hl:ls.length<=1000000)(hS:(pickH ls (stOf T x.h) x.h k).2.1.length<=1000):
  Pure prog 129 [lAp N ls T ff,lNo x,sci .i64 k] (lTq (pickN ls ff (stOf T x.h) x k)):=by
 obtain⟨n,j,nd,f⟩:=h.hf;have hP:=qhT ⟨N,ls,T,ff,0, []⟩ x.h k n j nd (stOf T x.h) f.hn f.hj f.hx f.hq f.gHs hl (λp hp=>⟨by have:=(f.picks p hp).2.1;omega,λy hy=>((f.picks p hp).2.2 y hy).1⟩) f.outl (λl hl=>(f.lets l hl).1) f.st0;clear h f;unfold pickN;simp only at hP;generalize pickH ls (stOf T x.h) x.h k=r at *;obtain⟨⟨w1,w2,w3,w4,w5⟩,S,e⟩:=r;simp only at hP hS ⊢;by_cases he:e=0
 rotate_left
 .rw[if_pos he];have eb:(e != 0)=true:=bne_iff_ne.2 he;obtain⟨⟨h1,h2,h3,h4,h5'⟩,⟨m1,m2,⟨m3,m4,m5,m6,m7,m8⟩⟩,⟨u1,⟨u2,u3,u4,u5,u6,u7⟩⟩,⟨t1,t2,t3,t4⟩,got,heard,told,seen⟩:=x;refine pcall0 200 (fn:=f129) func129 rfl (by simp[ntmps129]) zB zB λhs=>?_;(try simp(maxSteps:=2000000) (disch:=omega) only[go_sem,simprocAttr,zD,zE]);(refine zG ?_;refine qaa (hP) zB ?_);(try simp(maxSteps:=2000000) (disch:=omega) only[go_sem,simprocAttr,zD,zE,eb,errT,zNo,zHs,zMk,zHu,zTr,zPc])
 subst he;rw[if_neg wh];obtain⟨⟨h1,h2,h3,h4,h5'⟩,⟨m1,m2,⟨m3,m4,m5,m6,m7,m8⟩⟩,⟨u1,⟨u2,u3,u4,u5,u6,u7⟩⟩,⟨t1,t2,t3,t4⟩,got,heard,told,seen⟩:=x;simp only at *;have key: ∀c,S.map (sOu c)=S.map (sOu c):=λ_=>rfl
 cases ff
 .show Pure _ _ _ (lTq ⟨_,S.map (sOu u1),_,_,_⟩);obtain⟨F,hF⟩: ∃F,F=S.map (sOu u1):=⟨_,rfl⟩;rw[<-hF];have fL:F.length=S.length:=by rw[hF,Kb]
  have fS: ∀(i:Nat) (h:i < S.length),F.take (i+1)=F.take i++ [sOu u1 S[i]]:=λi h=>by
   rw[hF,Kd vY,Ke]
  clear hF;refine pcall0 200 (fn:=f129) func129 rfl (by simp[ntmps129]) zB zB λhs=>?_;(try simp(maxSteps:=2000000) (disch:=omega) only[go_sem,simprocAttr,zD,zE]);refine zY hP ?_;refine walk_ownB 4 0 28 10 trivial rfl rfl rfl (.inr rfl) ?_;simp only[Kf,Kg,Kp];(refine walk_trim [3,4,6,8,10,11,254] trivial zL ?_;((try simp(maxSteps:=2000000) only[go_sem,simprocAttr]);(try with_reducible exact Ko)));refine qac 200 200 (λi:Nat=>i<=S.length)
   (λi=>⟨63, [(3, .ptr 0 0 0 0),(4, .ptr 1 0 0 0),(6, .ptr 2 0 0 0),(8,lSs S),(10, .ptr 4 0 0 0),(11,sci .i64 i)], [],6, [(5, .arr 10 i (ir eOu (F.take i))),(4, .arr 32 0 [tRow ⟨⟨w1,w2,w3,w4,w5⟩,⟨m1,m2,⟨m3,m4,m5,m6,m7,m8⟩⟩,⟨u1,⟨u2,u3,u4,u5,u6,u7⟩⟩,⟨t1,t2,t3,t4⟩,got,heard,told,seen⟩ (.ref 5 i 0 i) nil0 nil0 0]),(2, .arr 32 0 [[sci .i64 0,sci .i64 0,sci .i64 0,nil0,nil0,sci .i64 0,nil0,sci .i64 0,sci .i64 0,sci .i64 0,nil0,nil0,nil0,sci .i64 0,sci .i64 0,sci .i64 0,sci .i64 0,nil0,nil0,nil0,sci .i64 0,sci .i64 0,sci .i64 0,nil0,nil0,sci .i64 0,sci .i64 0,nil0,nil0,nil0,nil0,sci .i64 0]]),(1, .arr 28 0 [cNo ⟨⟨h1,h2,h3,h4,h5'⟩,⟨m1,m2,⟨m3,m4,m5,m6,m7,m8⟩⟩,⟨u1,⟨u2,u3,u4,u5,u6,u7⟩⟩,⟨t1,t2,t3,t4⟩,got,heard,told,seen⟩]),(0, .arr 4 0 [[sci .i64 N, .p (.imm 2 (pr eII ls)), .p (.imm 2 (pr eNd T)),scb false]])]⟩) (λi=>S.length - i) (0) [] ?_ ?_ ?_
  .simp
  .constructor<;>(try simp(maxSteps:=2000000) (disch:=omega) only[go_sem,simprocAttr,zD,zE,Kr,Ka,Kc,Kh])
  .rintro i hi;refine zV ?_;by_cases li:i < S.length
   .have sS:=fS i li;have sL:(F.take i).length=i:=wZ
    have sT:(F.take i).take i=F.take i:=by rw[Kl,Kq]
    have sM:min i (min i F.length)=i:=wa
    have sM2:min i F.length=i:=wa
    generalize hq:S[i]=s at *;obtain⟨s1,s2,s3⟩:=s;simp only[sOu] at sS;(try simp(maxSteps:=2000000) (disch:=omega) only[go_sem,simprocAttr,zD,zE,eIII,hq]);(refine zM [3,4,6,8,10,11,12,254] ?_;refine zI [U,U,U,U,U,U,U,U,U,V [0,1],V [],U,V []] ?_);(try simp(maxSteps:=2000000) (disch:=omega) only[go_sem,simprocAttr,zD,zE,eIII,hq,sL,sT]);refine⟨i+1, [],wd,?_,?_⟩
    ·(try simp only[]);omega
    .constructor<;>(try simp(maxSteps:=2000000) (disch:=omega) only[go_sem,simprocAttr,zD,zE,sS,ir_snoc,eOu,sL,sT,sM,sM2,Km,Kn,Kc])
   .obtain rfl:i=S.length:=wa
    have hti:F.take S.length=F:=Ka wa;(try simp(maxSteps:=2000000) (disch:=omega) only[go_sem,simprocAttr,zD,zE,hti]);try rw[Ka wa]
 .show Pure _ _ _ (lTq ⟨_,S.map (sOu 0),_,_,_⟩);obtain⟨F,hF⟩: ∃F,F=S.map (sOu 0):=⟨_,rfl⟩;rw[<-hF];have fL:F.length=S.length:=by rw[hF,Kb]
  have fS: ∀(i:Nat) (h:i < S.length),F.take (i+1)=F.take i++ [sOu 0 S[i]]:=λi h=>by
   rw[hF,Kd vY,Ke]
  clear hF;refine pcall0 200 (fn:=f129) func129 rfl (by simp[ntmps129]) zB zB λhs=>?_;(try simp(maxSteps:=2000000) (disch:=omega) only[go_sem,simprocAttr,zD,zE]);refine zY hP ?_;refine walk_ownB 4 0 28 10 trivial rfl rfl rfl (.inr rfl) ?_;simp only[Kf,Kg,Kp];(refine walk_trim [3,4,6,8,10,11,254] trivial zL ?_;((try simp(maxSteps:=2000000) only[go_sem,simprocAttr]);(try with_reducible exact Ko)));refine qac 200 200 (λi:Nat=>i<=S.length)
   (λi=>⟨63, [(3, .ptr 0 0 0 0),(4, .ptr 1 0 0 0),(6, .ptr 2 0 0 0),(8,lSs S),(10, .ptr 4 0 0 0),(11,sci .i64 i)], [],6, [(5, .arr 10 i (ir eOu (F.take i))),(4, .arr 32 0 [tRow ⟨⟨w1,w2,w3,w4,w5⟩,⟨m1,m2,⟨m3,m4,m5,m6,m7,m8⟩⟩,⟨u1,⟨u2,u3,u4,u5,u6,u7⟩⟩,⟨t1,t2,t3,t4⟩,got,heard,told,seen⟩ (.ref 5 i 0 i) nil0 nil0 0]),(2, .arr 32 0 [[sci .i64 0,sci .i64 0,sci .i64 0,nil0,nil0,sci .i64 0,nil0,sci .i64 0,sci .i64 0,sci .i64 0,nil0,nil0,nil0,sci .i64 0,sci .i64 0,sci .i64 0,sci .i64 0,nil0,nil0,nil0,sci .i64 0,sci .i64 0,sci .i64 0,nil0,nil0,sci .i64 0,sci .i64 0,nil0,nil0,nil0,nil0,sci .i64 0]]),(1, .arr 28 0 [cNo ⟨⟨h1,h2,h3,h4,h5'⟩,⟨m1,m2,⟨m3,m4,m5,m6,m7,m8⟩⟩,⟨u1,⟨u2,u3,u4,u5,u6,u7⟩⟩,⟨t1,t2,t3,t4⟩,got,heard,told,seen⟩]),(0, .arr 4 0 [[sci .i64 N, .p (.imm 2 (pr eII ls)), .p (.imm 2 (pr eNd T)),scb true]])]⟩) (λi=>S.length - i) (0) [] ?_ ?_ ?_
  .simp
  .constructor<;>(try simp(maxSteps:=2000000) (disch:=omega) only[go_sem,simprocAttr,zD,zE,Kr,Ka,Kc,Kh])
  .rintro i hi;refine zV ?_;by_cases li:i < S.length
   .have sS:=fS i li;have sL:(F.take i).length=i:=wZ
    have sT:(F.take i).take i=F.take i:=by rw[Kl,Kq]
    have sM:min i (min i F.length)=i:=wa
    have sM2:min i F.length=i:=wa
    generalize hq:S[i]=s at *;obtain⟨s1,s2,s3⟩:=s;simp only[sOu] at sS;(try simp(maxSteps:=2000000) (disch:=omega) only[go_sem,simprocAttr,zD,zE,eIII,hq]);(refine zM [3,4,6,8,10,11,12,254] ?_;refine zI [U,U,U,U,U,U,U,U,U,V [0,1],V [],U,V []] ?_);(try simp(maxSteps:=2000000) (disch:=omega) only[go_sem,simprocAttr,zD,zE,eIII,hq,sL,sT]);refine⟨i+1, [],wd,?_,?_⟩
    ·(try simp only[]);omega
    .constructor<;>(try simp(maxSteps:=2000000) (disch:=omega) only[go_sem,simprocAttr,zD,zE,sS,ir_snoc,eOu,sL,sT,sM,sM2,Km,Kn,Kc])
   .obtain rfl:i=S.length:=wa
    have hti:F.take S.length=F:=Ka wa;(try simp(maxSteps:=2000000) (disch:=omega) only[go_sem,simprocAttr,zD,zE,hti]);try rw[Ka wa]
def qi9(N:Int)(ls:List (Int × Int))(T:List Nd)(ff:Bool)(x:No)(k:Int)(t:Int)(h:NOk N ls T t x)(hl:ls.length<=1000000)(hS:(pickH ls (stOf T x.h) x.h k).2.1.length<=900):
  Pure prog 48 [lAp N ls T ff,lNo x,sci .i64 k] (.tup [lNo (pickN ls ff (stOf T x.h) x k).x,lOus (pickN ls ff (stOf T x.h) x k).out,sci .i64 (pickN ls ff (stOf T x.h) x k).e]):=by
 obtain⟨n,j,nd,f⟩:=h.hf;have hP:=qrj ⟨N,ls,T,ff,0, []⟩ x.h k n j nd (stOf T x.h) f.hn f.hj f.hx f.hq f.gHs hl (λp hp=>⟨by have:=(f.picks p hp).2.1;omega,λy hy=>((f.picks p hp).2.2 y hy).1⟩) f.outl f.st0;clear h f;unfold pickN;simp only at hP;generalize pickH ls (stOf T x.h) x.h k=r at *;obtain⟨⟨w1,w2,w3,w4,w5⟩,S,e⟩:=r;simp only at hP hS ⊢;by_cases he:e=0
 rotate_left
 .rw[if_pos he];have eb:(e != 0)=true:=bne_iff_ne.2 he;obtain⟨⟨h1,h2,h3,h4,h5'⟩,⟨m1,m2,⟨m3,m4,m5,m6,m7,m8⟩⟩,⟨u1,⟨u2,u3,u4,u5,u6,u7⟩⟩,⟨t1,t2,t3,t4⟩,got,heard,told,seen⟩:=x;refine pcall0 200 (fn:=f48) func48 rfl (by simp[ntmps48]) zB zB λhs=>?_;(try simp(maxSteps:=2000000) (disch:=omega) only[go_sem,simprocAttr,zD,zE]);(refine zG ?_;refine qaa (hP) zB ?_);(try simp(maxSteps:=2000000) (disch:=omega) only[go_sem,simprocAttr,zD,zE,eb,errT,zNo,zHs,zMk,zHu,zTr,zPc])
 subst he;rw[if_neg wh];have hsend:=fun(o:List Ou) (n:Nat) (ho:o.length=n) (hn:n<=1000) (l:Int) (g:Fm)=>qcI N ls T ff ⟨⟨w1,w2,w3,w4,w5⟩,x.m,x.u,x.t,x.got,x.heard,x.told,x.seen⟩ n o [] [] 0 ⟨0,0,(0,0), [],0,0,0, []⟩ ho hn l g
 obtain⟨⟨h1,h2,h3,h4,h5'⟩,⟨m1,m2,⟨m3,m4,m5,m6,m7,m8⟩⟩,⟨u1,⟨u2,u3,u4,u5,u6,u7⟩⟩,⟨t1,t2,t3,t4⟩,got,heard,told,seen⟩:=x;simp only at *;cases ff
 .show Pure _ _ _ (.tup [_,lOus (S.map (sOu u1)),_]);obtain⟨F,hF⟩: ∃F,F=S.map (sOu u1):=⟨_,rfl⟩;rw[<-hF];have fL:F.length=S.length:=by rw[hF,Kb]
  have fS: ∀(i:Nat) (h:i < S.length),F.take i++ [sOu u1 S[i]]=F.take (i+1):=λi h=>by
   rw[hF,Kd vY,Ke]
  clear hF;refine pcall0 200 (fn:=f48) func48 rfl (by simp[ntmps48]) zB zB λhs=>?_;(try simp(maxSteps:=2000000) (disch:=omega) only[go_sem,simprocAttr,zD,zE]);refine zY hP ?_;refine walk_ownB 4 0 32 10 trivial rfl rfl rfl (.inr rfl) ?_;simp only[Kf,Kg,Kp];(refine walk_trim [6,12,13,41,42,43,84] trivial zL ?_;((try simp(maxSteps:=2000000) only[go_sem,simprocAttr]);(try with_reducible exact Ko)));refine qac 200 200 (λi:Nat=>i<=S.length)
   (λi=>⟨59, [(6, .ptr 2 0 0 0),(12,sci .i64 u1),(13, .ptr 4 0 0 0),(41,lSs S),(42,sci .i64 S.length),(43,sci .i64 i)], [],6, [(5, .arr 10 i (ir eOu (F.take i))),(4, .arr 45 0 [wRow N ls T false ⟨⟨w1,w2,w3,w4,w5⟩,⟨m1,m2,⟨m3,m4,m5,m6,m7,m8⟩⟩,⟨u1,⟨u2,u3,u4,u5,u6,u7⟩⟩,⟨t1,t2,t3,t4⟩,got,heard,told,seen⟩ (.ref 5 i 0 i) [] [] 0 ⟨0,0,(0,0), [],0,0,0, []⟩]),(2, .arr 28 0 [[sci .i64 0,sci .i64 0,sci .i64 0,nil0,nil0,sci .i64 0,nil0,sci .i64 0,sci .i64 0,sci .i64 0,nil0,nil0,nil0,sci .i64 0,sci .i64 0,sci .i64 0,sci .i64 0,nil0,nil0,nil0,sci .i64 0,sci .i64 0,sci .i64 0,nil0,nil0,sci .i64 0,sci .i64 0,nil0]])]⟩) (λi=>S.length - i) (0) [] ?_ ?_ ?_
  .simp
  .constructor<;>(try simp(maxSteps:=2000000) (disch:=omega) only[go_sem,simprocAttr,zD,zE,Kr,Ka,Kc,Kh])
  .rintro i hi;refine zV ?_;by_cases li:i < S.length
   .have sS:=fS i li;have sL:(F.take i).length=i:=wZ
    have hs:=hsend (F.take i) i sL wa;generalize hq:S[i]=s at *;obtain⟨s1,s2,s3⟩:=s;have hs:=hs s1 ⟨0,u1,(s2,s3), [],0,0,0, []⟩;have sS':F.take i++ [(⟨s1,⟨0,u1,(s2,s3), [],0,0,0, []⟩⟩:Ou)]=F.take (i+1):=sS;rw[sS'] at hs;generalize hFi:F.take i=Fi at *;(try simp(maxSteps:=2000000) (disch:=omega) only[go_sem,simprocAttr,zD,zE,eIII,hq]);refine zJ [4,5] hs ?_;refine⟨i+1, [],wd,?_,?_⟩
    ·(try simp only[]);omega
    .constructor<;>(try simp(maxSteps:=2000000) (disch:=omega) only[go_sem,simprocAttr,zD,zE,hFi,Kc])
   .obtain rfl:i=S.length:=wa
    have hti:F.take S.length=F:=Ka wa;refine zS hti ?_;(refine zM [6,13,84] ?_;refine zI [U,U,U,U,V [2,3],U,U] ?_);(try simp(maxSteps:=2000000) (disch:=omega) only[go_sem,simprocAttr,zD,zE,hti]);try rw[Ka wa]
 .show Pure _ _ _ (.tup [_,lOus (S.map (sOu 0)),_]);obtain⟨F,hF⟩: ∃F,F=S.map (sOu 0):=⟨_,rfl⟩;rw[<-hF];have fL:F.length=S.length:=by rw[hF,Kb]
  have fS: ∀(i:Nat) (h:i < S.length),F.take i++ [sOu 0 S[i]]=F.take (i+1):=λi h=>by
   rw[hF,Kd vY,Ke]
  clear hF;refine pcall0 200 (fn:=f48) func48 rfl (by simp[ntmps48]) zB zB λhs=>?_;(try simp(maxSteps:=2000000) (disch:=omega) only[go_sem,simprocAttr,zD,zE]);refine zY hP ?_;refine walk_ownB 4 0 32 10 trivial rfl rfl rfl (.inr rfl) ?_;simp only[Kf,Kg,Kp];(refine walk_trim [6,12,13,41,42,43,84] trivial zL ?_;((try simp(maxSteps:=2000000) only[go_sem,simprocAttr]);(try with_reducible exact Ko)));refine qac 200 200 (λi:Nat=>i<=S.length)
   (λi=>⟨59, [(6, .ptr 2 0 0 0),(12,sci .i64 0),(13, .ptr 4 0 0 0),(41,lSs S),(42,sci .i64 S.length),(43,sci .i64 i)], [],6, [(5, .arr 10 i (ir eOu (F.take i))),(4, .arr 45 0 [wRow N ls T true ⟨⟨w1,w2,w3,w4,w5⟩,⟨m1,m2,⟨m3,m4,m5,m6,m7,m8⟩⟩,⟨u1,⟨u2,u3,u4,u5,u6,u7⟩⟩,⟨t1,t2,t3,t4⟩,got,heard,told,seen⟩ (.ref 5 i 0 i) [] [] 0 ⟨0,0,(0,0), [],0,0,0, []⟩]),(2, .arr 28 0 [[sci .i64 0,sci .i64 0,sci .i64 0,nil0,nil0,sci .i64 0,nil0,sci .i64 0,sci .i64 0,sci .i64 0,nil0,nil0,nil0,sci .i64 0,sci .i64 0,sci .i64 0,sci .i64 0,nil0,nil0,nil0,sci .i64 0,sci .i64 0,sci .i64 0,nil0,nil0,sci .i64 0,sci .i64 0,nil0]])]⟩) (λi=>S.length - i) (0) [] ?_ ?_ ?_
  .simp
  .constructor<;>(try simp(maxSteps:=2000000) (disch:=omega) only[go_sem,simprocAttr,zD,zE,Kr,Ka,Kc,Kh])
  .rintro i hi;refine zV ?_;by_cases li:i < S.length
   .have sS:=fS i li;have sL:(F.take i).length=i:=wZ
    have hs:=hsend (F.take i) i sL wa;generalize hq:S[i]=s at *;obtain⟨s1,s2,s3⟩:=s;have hs:=hs s1 ⟨0,0,(s2,s3), [],0,0,0, []⟩;have sS':F.take i++ [(⟨s1,⟨0,0,(s2,s3), [],0,0,0, []⟩⟩:Ou)]=F.take (i+1):=sS;rw[sS'] at hs;generalize hFi:F.take i=Fi at *;(try simp(maxSteps:=2000000) (disch:=omega) only[go_sem,simprocAttr,zD,zE,eIII,hq]);refine zJ [4,5] hs ?_;refine⟨i+1, [],wd,?_,?_⟩
    ·(try simp only[]);omega
    .constructor<;>(try simp(maxSteps:=2000000) (disch:=omega) only[go_sem,simprocAttr,zD,zE,hFi,Kc])
   .obtain rfl:i=S.length:=wa
    have hti:F.take S.length=F:=Ka wa;refine zS hti ?_;(refine zM [6,13,84] ?_;refine zI [U,U,U,U,V [2,3],U,U] ?_);(try simp(maxSteps:=2000000) (disch:=omega) only[go_sem,simprocAttr,zD,zE,hti]);try rw[Ka wa]
structure gTd(d:Td):Prop where
 x:gNo d.x
 o:d.out.length<=1000000
 f: ∀o∈d.out,o.f.ps.length<=1000/\o.f.path.length<=1000000
 p:d.ps.length<=1000
 q:d.path.length<=1000000
def qnK(d:Td)(hg:gTd d):Pure prog 132 [lTq d,lTq d] (scb true):=by
 obtain⟨gx,go,gf,gp,gq⟩:=hg;have hS:=qd2 d.x gx;have hO:=qgn d.out go (λo ho=>⟨by have:=(gf o ho).1;omega,(gf o ho).2⟩);have hA:=qib d.ps d.ps;rw[qbg.2 rfl] at hA;have hI:=qcW d.path gq;obtain⟨x,out,ps,path,e⟩:=d;simp only at hS hO hA hI;obtain⟨⟨h1,h2,h3,h4,h5'⟩,⟨m1,m2,⟨m3,m4,m5,m6,m7,m8⟩⟩,⟨u1,⟨u2,u3,u4,u5,u6,u7⟩⟩,⟨t1,t2,t3,t4⟩,got,heard,told,seen⟩:=x;refine pcall0 200 (fn:=f132) func132 rfl (by simp[ntmps132]) zB zB λhs=>?_;(try simp only[go_sem,simprocAttr]);refine zY hS ?_;refine zY hO ?_;refine zY hA ?_;(refine zG ?_;refine qaa (hI) zB ?_);(try simp(maxSteps:=2000000) (disch:=omega) only[go_sem,simprocAttr,zD,zE,beq_self_eq_true])
def qlv(d:Td)(hg:gTd d):Pure prog 128 [lNo d.x,lOus d.out, .agg [lPs d.ps,lI d.path],sci .i64 d.e] (lTq d):=by
 obtain⟨gx,go,gf,gp,gq⟩:=hg;have hR:=qe3 d.x gx.g;have hO:=qgr d.out go (λo ho=>(gf o ho).1);have hP:=Refs_spec d.ps gp;obtain⟨x,out,ps,path,e⟩:=d;simp only at hR hO hP;obtain⟨⟨h1,h2,h3,h4,h5'⟩,⟨m1,m2,⟨m3,m4,m5,m6,m7,m8⟩⟩,⟨u1,⟨u2,u3,u4,u5,u6,u7⟩⟩,⟨t1,t2,t3,t4⟩,got,heard,told,seen⟩:=x;refine pcall0 200 (fn:=f128) func128 rfl (by simp[ntmps128]) zB zB λhs=>?_;(try simp only[go_sem,simprocAttr]);(refine zM [1,3,4,6,8,254] ?_;refine zI [U,V [2,4,5,7,8,9],U,V [4,5,7,8,9],U,U,V [7,8,9],U,U,U,U,V []] ?_);refine zV ?_;(refine zF ?_;refine qaa (hR) zB ?_);refine zV ?_;(refine zF ?_;refine qaa (hO) zB ?_);refine zV ?_;(refine zF ?_;refine qaa (hP) zB ?_);((try simp(maxSteps:=2000000) (disch:=omega) only[go_sem,simprocAttr,zD,zE]);(try with_reducible exact Ko))
end Go.Proofs.NO
namespace Go.Proofs.NO
open Go Go.Idl Go.Proofs Go.GP Go.GN Go.Proofs.Tryz
structure dOk(d:Td):Prop where
 o:d.out.length<=1010
 f: ∀o∈d.out,o.f.ps.length<=7/\o.f.path.length<=7
 p:d.ps.length<=7
 q:d.path.length<=7
def dOk.err(e):dOk (errT e):=⟨by simp[errT],by simp[errT],by simp[errT],by simp[errT]⟩
section
variable{N:Int}{ls:List (Int × Int)}{T:List Nd}{t:Int}{x:No}{ff:Bool}
def NOk.gNo(h:NOk N ls T t x)(a:t<=1000):NO.gNo x:=by
 obtain⟨b, -⟩:=h.gH;have g:=h.gm.g a;have c:=h.mo;have d:=g.inn;have e:=h.tk;have f:=h.got6;have i:=h.sn;exact⟨b,g,wa,h.gu.g a,wa,wa,wa⟩
def qsR:NO.gNo zNo:=⟨⟨wh,wh,by simp[zNo,zHs],by simp[zNo,zHs]⟩,⟨wh,wh,wh,by simp[zNo,zMk,zPc],by simp[zNo,zMk,zPc]⟩,wh,⟨wh,wh,wh,by simp[zNo,zHu,zPc],by simp[zNo,zHu,zPc]⟩,wh,wh,wh⟩
theorem dOk.g{d}(h:dOk d)(b:NO.gNo d.x):gTd d:=
 ⟨b,by have:=h.o;omega,λo a=>⟨by have:=(h.f o a).1;omega,by have:=(h.f o a).2;omega⟩,by have:=h.p;omega,by have:=h.q;omega⟩
def dok_tell{d}(n:NOk N ls T t d.x)(hp:d.ps= [])(j:d.path= [])(r:d.out.length<=1000)(i: ∀o∈d.out,o.f.ps.length<=7/\o.f.path.length<=7)(h:(qak ls ff d).e=0):dOk (qak ls ff d):=by
 have b:(qak ls ff d).path= []:=by
  unfold qak at h ⊢;split
  .split
   .rfl
   grind
  omega
 obtain⟨m,a,q⟩:=qsp n hp h;rcases q with ⟨rfl,g, -⟩ | ⟨-, -,P, -, -,p,⟨rfl,g⟩ | ⟨g,l,rfl⟩⟩
 .exact⟨wg,wn,wg,wg⟩
 .exact⟨wg,wg,wg,wg⟩
 .refine⟨wg,?_,wg,wg⟩
  grind
def ctl_short{k e l}:(⟨l,ctl k e⟩:Ou).f.ps.length<=7/\(⟨l,ctl k e⟩:Ou).f.path.length<=7:=by simp[ctl]
def qmD(h:NOk N ls T t x)(L:0<=t)(link:Int)(f:Fm)(M:(stOf T x.h).waits.length<=1000)(a:(hearN ls ff (stOf T x.h) x link f).e=0):dOk (hearN ls ff (stOf T x.h) x link f):=by
 unfold hearN at a ⊢;split
 .exact dOk.err 1
 rename_i c;rw[if_neg c] at a;have m:FrP f:=Classical.byContradiction λq=>c (.inr q)
 have O:=h.outs5;have b:=h.mono (u:=t+1) wa;split
 .rename_i v;unfold appN;split
  .exact dOk.err _
  .exact⟨wc,wc,wc,wc⟩
 rename_i v;rw[if_neg v] at a;split
 .rename_i n;rw[if_pos n] at a;have y:1<=f.epoch/\f.epoch<=200:=by
   rcases m with q | q | q | q
   .omega
   .omega
   .exact q.2.1.2.1
   .omega
  unfold floodedN at a ⊢;split
  .exact dOk.err _
  rename_i i;rw[if_neg i] at a;split
  .exact dOk.err _
  rename_i j;rw[if_neg j] at a;have A:NOk N ls T (t+1) ⟨x.h,if ff then(markM x.m x.h f.epoch (indexL link 0 (ins x.h.node 0 ls))).1 else x.m,if ff then x.u else(turnU x.u x.h f.epoch).1,x.t,x.got,x.heard,x.told,x.seen⟩:=by
   cases ff
   .exact b.turn y.2 wa
   .exact b.mark y wa _
  split
  .rename_i g;rw[if_pos g] at a;refine dok_tell (N:=N) (T:=T) (t:=t+1) A rfl rfl wc (λo d=>?_) a;rw[List.mem_singleton.1 d];exact ctl_short
  .rename_i g;rw[if_neg g] at a;have k:=b.td;refine dok_tell (N:=N) (T:=T) (t:=t+1) (NOk.flood ?_ ff _) rfl rfl ?_ ?_ a
   .refine A.tree ?_ ?_ ?_ ?_
    .unfold floodT;rw[if_neg g];simp only;split<;>omega
    .unfold floodT;rw[if_neg g];simp only;omega
    .unfold floodT;rw[if_neg g];simp;omega
    .unfold floodT;rw[if_neg g];simp only;omega
   .simp only[floodN,Kj,Kb,Kk];omega
   .intro o d;simp only[floodN] at d;rcases List.mem_append.1 d with d | d
    .rw[List.mem_singleton.1 d];exact ctl_short
    .obtain⟨l, -,rfl⟩:=List.mem_map.1 d;exact ctl_short
 rename_i n;rw[if_neg n] at a;split
 .rename_i r;rw[if_pos r] at a;unfold repliedN at a ⊢;split
  .exact dOk.err _
  rename_i i;rw[if_neg i] at a;have q: ¬(x.t.epoch≠f.epoch\/x.t.wait < 1):=λq=>i wM
  have B: ¬x.t.wait < 1:=λz=>q (.inr z)
  have D:=h.tw;have E:=h.tk;have k:=h.td;refine dok_tell (N:=N) (T:=T) (t:=t+1) ?_ rfl rfl wc wc a;refine b.tree ?_ ?_ ?_ ?_
  .unfold replyT;rw[if_neg q];simp only;omega
  .unfold replyT;rw[if_neg q];exact h.te
  .unfold replyT;rw[if_neg q];simp only;split
   .simp only[Kj,Kk];omega
   .omega
  .unfold replyT;rw[if_neg q];exact k.2
 rename_i r;rw[if_neg r] at a;split
 .rename_i C;rw[if_pos C] at a;unfold reportedN at a ⊢;split
  .exact dOk.err _
  rename_i i;rw[if_neg i] at a;split
  .exact dOk.err _
  rename_i j;rw[if_neg j] at a;have F: ∀p∈f.ps,qaD p:=by
   rcases m with q | q | q | q
   .omega
   .omega
   .omega
   .exact q.2.2.2
  rcases mrg_cases x.got f.ps with ⟨q,_⟩ | ⟨_,B,G⟩
  .rw[q] at j;exact absurd wh j
  have H:=h.hd;refine dok_tell (N:=N) (T:=T) (t:=t+1) ?_ rfl rfl wc wc a;exact⟨b.host,b.st,b.gm,b.m0,b.mo,b.ml,b.gu,b.u0,b.un,b.tw,b.te,b.tk,λp s=>by
   rcases List.mem_append.1 (B.mem_iff.1 s) with z | z
   .exact h.got p z
   .exact F p z,G,⟨we,we⟩,b.td,b.sn⟩
 rename_i C;have I:qbk f:=by
  rcases m with q | q | q | q
  .exact q.2
  .omega
  .omega
  .omega
 have K:=I.2.2.2.2.2.2.1.2;unfold probedN hearP;split
 .exact⟨wc,wc,wc,wc⟩
 split
 .exact⟨wc,wc,wc,we⟩
 split
 .exact⟨wc,wc,wc,wc⟩
 .refine⟨by simp only[sendsP,Kb];omega,?_,wc,wc⟩;intro o d;obtain⟨w, -,rfl⟩:=List.mem_map.1 d;simp only[Kj,Kk,List.length_nil];omega
def qj6(h:NOk N ls T t x)(d:0<=t)(e)(a:(startN ls ff x e).e=0):dOk (startN ls ff x e):=by
 unfold startN at a ⊢;split
 .exact dOk.err 1
 rename_i c;rw[if_neg c] at a;have b:1<=e/\e<=200/\x.t.epoch < e:=wa
 have g:NOk N ls T t ⟨x.h,if ff then beginM x.h e else x.m,if ff then x.u else(turnU x.u x.h e).1,x.t,x.got,x.heard,x.told,x.seen⟩:=by
  cases ff
  .exact h.turn b.2.1 d
  .exact h.begin_ ⟨b.1,b.2.1⟩ d
 have j:=h.outs5;have i:=h.td;refine dok_tell (N:=N) (T:=T) (t:=t) (NOk.flood ?_ ff _) rfl rfl ?_ ?_ a
 .refine g.tree ?_ ?_ ?_ ?_<;>grind[plantT]
 .grind[floodN]
 .intro o f;obtain⟨l, -,rfl⟩:=List.mem_map.1 f;exact ctl_short
def qeX(h:NOk N ls T t x)(f:t<=1000)(k):(pickH ls (stOf T x.h) x.h k).2.1.length<=4:=by
 obtain⟨n,j,i,g⟩:=h.hf;have b:=h.st;rcases g.pick wa k with ⟨e,c,a⟩ | ⟨l,S,c,a,m,d⟩<;>simp_all
def qsE(h:NOk N ls T t x)(a:t<=1000)(k):dOk (pickN ls ff (stOf T x.h) x k):=by
 have c:=qeX h a k;unfold pickN;split
 .exact dOk.err _
 .refine⟨wg,?_,wc,wc⟩
  grind
noncomputable def callN(ls:List (Int × Int))(ff:Bool)(T:List Nd)(x:No)(o:Op):Td:=
 if bits .and .i64 o.kind 3=0 then pickN ls ff (stOf T x.h) x o.n else if bits .and .i64 o.kind 3=1 then startN ls ff x o.n else hearN ls ff (stOf T x.h) x o.link (cutF o.f)
noncomputable def nextN(ls:List (Int × Int))(ff:Bool)(T:List Nd)(x:No)(o:Op):No:=if(callN ls ff T x o).e=0 then(callN ls ff T x o).x else x
def qmA{o}(h:(callN ls ff T x o).e≠0):callN ls ff T x o=errT (callN ls ff T x o).e:=by
 unfold callN at h ⊢;split
 .rename_i c;rw[if_pos c] at h;exact pick_err h
 rename_i c;rw[if_neg c] at h;split
 .rename_i a;rw[if_pos a] at h;exact start_err h
 .rename_i a;rw[if_neg a] at h;exact hear_err h
def call_ok(h:NOk N ls T t x)(b:0<=t)(i:t<=999)(f:(stOf T x.h).waits.length<=1000)(o):gTd (callN ls ff T x o)/\((callN ls ff T x o).e=0->NOk N ls T (t+1) (callN ls ff T x o).x):=by
 by_cases a:(callN ls ff T x o).e=0
 rotate_left
 .rw[qmA a];exact⟨(dOk.err _).g qsR,λq=>absurd q a⟩
 have k:dOk (callN ls ff T x o)/\NOk N ls T (t+1) (callN ls ff T x o).x:=by
  unfold callN at a ⊢;split
  .rename_i c;rw[if_pos c] at a;exact⟨qsE h wa _,h.pick wa ff _ a⟩
  rename_i c;rw[if_neg c] at a;split
  .rename_i d;rw[if_pos d] at a;exact⟨qj6 h b _ a,(h.start b ff _ a).mono wa⟩
  .rename_i d;rw[if_neg d] at a;exact⟨qmD h b _ _ f a,h.hear b wa ff _ _ a⟩
 exact⟨k.1.g (k.2.gNo wa),λ_=>k.2⟩
def qpC(h:NOk N ls T t x)(a:0<=t)(b:t<=999)(d:(stOf T x.h).waits.length<=1000)(o):NOk N ls T (t+1) (nextN ls ff T x o):=by
 unfold nextN;split
 .rename_i c;exact(call_ok h a b d o).2 c
 .exact h.mono wa
def next_up(h:UpOk x)(o):UpOk (nextN ls ff T x o):=by
 unfold nextN;split
 .rename_i c;unfold callN at c ⊢;split
  .rename_i a;rw[if_pos a] at c;exact h.pick c
  rename_i a;rw[if_neg a] at c;split
  .rename_i b;rw[if_pos b] at c;exact h.start c
  .rename_i b;rw[if_neg b] at c;exact h.hear c
 omega
end
end Go.Proofs.NO
