/- A call of both: both are as they were told, and tell the same. -/
import Derived.Test.YtfhhdgkhajkapaaGreatNRk
set_option linter.all false
open True renaming intro->Ka
open Option renaming none->U,some->V
namespace Go.Proofs.NO
open Go Go.Idl Go.Proofs Go.GP Go.Proofs.Tryz
set_option maxHeartbeats 0
set_option maxRecDepth 100000
abbrev lOp(o:Op):IV:= .agg [sci .i64 o.kind,sci .i64 o.n,sci .i64 o.link,sci .i64 o.f.kind,sci .i64 o.f.epoch,sci .i64 o.f.m.1,sci .i64 o.f.m.2,lPs o.f.ps,sci .i64 o.f.init,sci .i64 o.f.num,sci .i64 o.f.count,lI o.f.path]
def qpp(N:Int)(ls:List (Int × Int))(T:List Nd)(ff:Bool)(x:No)(o:Op)(t:Int)(h:NOk N ls T t x)(ht:0<=t)(hb:t<=900)(hup:UpOk x)(k8:T.length<=8)(ko: ∀n∈T,OkNd n)(hl:ls.length<=1000000)(hT:qcX T)
  (hw:(stOf T x.h).waits.length<=1000):
  Pure prog 52 [lAp N ls T ff,lNo x,lNo x,lOp o] (.tup [lNo (nextN ls ff T x o),lNo (nextN ls ff T x o),scb true]):=by
 obtain⟨gT,okN⟩:=call_ok (ff:=ff) h ht wa hw o;have hCE:= @qmA ls T x ff o;have gx:=h.gNo wa;have hAl:=qnK (callN ls ff T x o) gT;have hTl:=qlv (callN ls ff T x o) gT;have hC:=qiB o.f;have hgp:=qpo o.f;have h7:(cutF o.f).ps.length<=1000:=by simp[cutF];omega
 have hRf:=qbV (cutF o.f) h7;have hAp:=qd6 ⟨N,ls,T,ff,0, []⟩ k8 ko;have p1:=qi9 N ls T ff x o.n t h hl (by have:=qeX h wa o.n;omega);have p2:=R18Pick_spec N ls T ff x o.n t h hl (by have:=qeX h wa o.n;omega);have s1:=qhU N ls T ff x o.n t h ht wa hl;have s2:=qkZ N ls T ff x o.n t h ht wa hup hl;have e1:=qjY N ls T ff x o.link (cutF o.f) t h ht wa hl hT hw hgp;have e2:=qmj N ls T ff x o.link (cutF o.f) t h ht wa hup hl hT hw hgp;have hd:callN ls ff T x o=if bits .and .i64 o.kind 3=0 then pickN ls ff (stOf T x.h) x o.n else if bits .and .i64 o.kind 3=1 then startN ls ff x o.n else hearN ls ff (stOf T x.h) x o.link (cutF o.f):=rfl
 have hn:nextN ls ff T x o=if(callN ls ff T x o).e=0 then(callN ls ff T x o).x else x:=rfl
 have hpz:(pickN ls ff (stOf T x.h) x o.n).ps= []/\(pickN ls ff (stOf T x.h) x o.n).path= []:=by
  unfold pickN;split<;>exact⟨rfl,rfl⟩
 rw[hn];clear hn h hup gx okN;generalize callN ls ff T x o=d at *;generalize cutF o.f=q at *;obtain⟨kind,en,link,f⟩:=o;simp only at *;obtain⟨f1,f2,⟨f3,f4⟩,f5,f6,f7,f8,f9⟩:=f;obtain⟨q1,q2,⟨q3,q4⟩,q5,q6,q7,q8,q9⟩:=q;have fin:(d.e=0/\(if d.e=0 then d.x else x)=d.x)\/(d.e≠0/\(if d.e=0 then d.x else x)=x):=by
  by_cases c:d.e=0
  .exact .inl ⟨c,if_pos c⟩
  .exact .inr ⟨c,if_neg c⟩
 generalize (if d.e=0 then d.x else x)=y at *;cases c0:(bits .and .i64 kind 3==0) with
 | true=>
   have k0:=beq_iff_eq.1 c0;rw[if_pos k0] at hd;rw[<-hd] at p1 p2 hpz;clear hd s1 s2 e1 e2;obtain⟨dx,out,ps,path,er⟩:=d;simp only at *;obtain⟨rfl,rfl⟩:=hpz;refine pcall0 200 (fn:=f52) func52 rfl (by simp[ntmps52]) zB zB λhs=>?_;(try simp only[go_sem,simprocAttr]);(refine zM [4,5,6,7,8,9,84,116] ?_;refine zI [U,U,V [3,5,6],U,V [5,6],V [0,1,2,3,4,6],V [0,1,2,3,4,5],V [],V []] ?_);refine zV ?_;(refine zF ?_;refine qaa (hC) zB ?_);refine zV ?_;(refine zF ?_;refine qaa (hAp) zB ?_);refine zS c0 ?_;refine zY p1 ?_;refine zY hTl ?_;refine zY p2 ?_;(refine zG ?_;refine qaa (hAl) zB ?_;refine zV ?_);rcases fin with ⟨rfl,rfl⟩ | ⟨he,rfl⟩
   ·(try simp(maxSteps:=2000000) (disch:=omega) only[go_sem,simprocAttr,zD,zE]);(refine zM [8,9,14,15,84,116] ?_;refine zI [U,U,U,V [1,2],V [],U] ?_);((try simp(maxSteps:=2000000) (disch:=omega) only[go_sem,simprocAttr,zD,zE]);(try with_reducible exact Ka))
   .have eb:(er != 0)=true:=bne_iff_ne.2 he;refine zS eb ?_;(refine zM [5,6,8,9,84] ?_;refine zI [U,U,V [1],V [],U] ?_);((try simp(maxSteps:=2000000) (disch:=omega) only[go_sem,simprocAttr,zD,zE]);(try with_reducible exact Ka))
 | false=>
   have k0: ¬bits .and .i64 kind 3=0:=beq_eq_false_iff_ne.1 c0;rw[if_neg k0] at hd;clear p1 p2 hpz;cases c1:(bits .and .i64 kind 3==1) with
   | true=>
     have k1:=beq_iff_eq.1 c1;rw[if_pos k1] at hd;rw[<-hd] at s1 s2;clear hd e1 e2;obtain⟨dx,out,ps,path,er⟩:=d;simp only at *;refine pcall0 200 (fn:=f52) func52 rfl (by simp[ntmps52]) zB zB λhs=>?_;(try simp only[go_sem,simprocAttr]);(refine zM [4,5,6,7,8,9,84,116] ?_;refine zI [U,U,V [3,5,6],U,V [5,6],V [0,1,2,3,4,6],V [0,1,2,3,4,5],V [],V []] ?_);refine zV ?_;(refine zF ?_;refine qaa (hC) zB ?_);refine zV ?_;(refine zF ?_;refine qaa (hAp) zB ?_);(try simp(maxSteps:=2000000) (disch:=omega) only[go_sem,simprocAttr,zD,zE,c0]);refine zS c1 ?_;refine zY s1 ?_;refine zY hTl ?_;refine zY s2 ?_;(refine zG ?_;refine qaa (hAl) zB ?_;refine zV ?_);rcases fin with ⟨rfl,rfl⟩ | ⟨he,rfl⟩
     ·(try simp(maxSteps:=2000000) (disch:=omega) only[go_sem,simprocAttr,zD,zE]);(refine zM [8,9,14,15,84,116] ?_;refine zI [U,U,U,V [1,2],V [],U] ?_);((try simp(maxSteps:=2000000) (disch:=omega) only[go_sem,simprocAttr,zD,zE]);(try with_reducible exact Ka))
     .have eb:(er != 0)=true:=bne_iff_ne.2 he;refine zS eb ?_;(refine zM [5,6,8,9,84] ?_;refine zI [U,U,V [1],V [],U] ?_);((try simp(maxSteps:=2000000) (disch:=omega) only[go_sem,simprocAttr,zD,zE]);(try with_reducible exact Ka))
   | false=>
     have k1: ¬bits .and .i64 kind 3=1:=beq_eq_false_iff_ne.1 c1;rw[if_neg k1] at hd;rw[<-hd] at e1 e2;clear hd s1 s2;obtain⟨dx,out,ps,path,er⟩:=d;simp only at *;refine pcall0 200 (fn:=f52) func52 rfl (by simp[ntmps52]) zB zB λhs=>?_;(try simp only[go_sem,simprocAttr]);(refine zM [4,5,6,7,8,9,84,116] ?_;refine zI [U,U,V [3,5,6],U,V [5,6],V [0,1,2,3,4,6],V [0,1,2,3,4,5],V [],V []] ?_);refine zV ?_;(refine zF ?_;refine qaa (hC) zB ?_);refine zV ?_;(refine zF ?_;refine qaa (hAp) zB ?_);(try simp(maxSteps:=2000000) (disch:=omega) only[go_sem,simprocAttr,zD,zE,c0]);refine zS c1 ?_;refine zY e1 ?_;refine zY hTl ?_;refine zN [5,6,7,8,9,11,12,13,14,15,23,84,116] [U,U,U,U,U,V [0,1,2,3],V [],V []] ?_;refine zX hRf ?_;refine zX e2 ?_;(refine zG ?_;refine qaa (hAl) zB ?_;refine zV ?_);rcases fin with ⟨rfl,rfl⟩ | ⟨he,rfl⟩
     ·(try simp(maxSteps:=2000000) (disch:=omega) only[go_sem,simprocAttr,zD,zE]);(refine zM [8,9,14,15,84,116] ?_;refine zI [U,U,U,V [1,2],V [],U] ?_);((try simp(maxSteps:=2000000) (disch:=omega) only[go_sem,simprocAttr,zD,zE]);(try with_reducible exact Ka))
     .have eb:(er != 0)=true:=bne_iff_ne.2 he;refine zS eb ?_;(refine zM [5,6,8,9,84] ?_;refine zI [U,U,V [1],V [],U] ?_);((try simp(maxSteps:=2000000) (disch:=omega) only[go_sem,simprocAttr,zD,zE]);(try with_reducible exact Ka))
end Go.Proofs.NO
