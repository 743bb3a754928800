/- Facts leant on. -/
import Derived.Test.YtfhhdgkhajkapaaGreatNRh
import Derived.Test.YtfhhdgkhajkapaaGreatIdLo
import Derived.Test.YtfhhdgkhajkapaaGreatNPS
import Derived.Test.YtfhhdgkhajkapaaGreatNMe
set_option linter.all false
open List renaming take_of_length_le->Ka,length_map->Kb,append_assoc->Kc,take_succ_eq_append_getElem->Kd,getElem_map->Ke,set_cons_zero->Kf,set_cons_succ->Kg,take_zero->Kh,length_take->Ki,length_append->Kj,length_singleton->Kk,take_take->Kl,map_cons->Km,map_nil->Kn
open Nat renaming reduceAdd->Ko,min_self->Kp
open Int renaming natCast_zero->Kq
open Classical renaming byContradiction->Kr
open Option renaming none->U
/- What a node picks: the program's and the document's. -/
namespace Go.Proofs.NO
open Go Go.Idl Go.Proofs Go.GP Go.Proofs.Tryz
set_option maxHeartbeats 0
set_option maxRecDepth 100000
def sOu(c:Int)(s:Int × Int × Int):Ou:=⟨s.1,⟨0,c,(s.2.1,s.2.2), [],0,0,0, []⟩⟩
def qrk{ls:List (Int × Int)}{ff:Bool}{st:St}{x:No}{k:Int}(h:(pickN ls ff st x k).e≠0):pickN ls ff st x k=errT (pickN ls ff st x k).e:=by
 unfold pickN at h ⊢;split
 .rfl
 .rename_i c;rw[if_neg c] at h;exact absurd rfl h
def qoA(N:Int)(ls:List (Int × Int))(T:List Nd)(ff:Bool)(x:No)(k:Int)(t:Int)(h:NOk N ls T t x)(hl:ls.length<=1000000)(hS:(pickH ls (stOf T x.h) x.h k).2.1.length<=900):
  Pure prog 48 [lAp N ls T ff,lNo x,sci .i64 k] (.tup [lNo (pickN ls ff (stOf T x.h) x k).x,lOus (pickN ls ff (stOf T x.h) x k).out,sci .i64 (pickN ls ff (stOf T x.h) x k).e]):=by
 obtain⟨n,j,nd,f⟩:=h.hf;have hP:=qo9 ⟨N,ls,T,ff,0, []⟩ x.h k n j nd (stOf T x.h) f.hn f.hj f.hx f.hq f.gHs hl (λp hp=>⟨by have:=(f.picks p hp).2.1;omega,λy hy=>((f.picks p hp).2.2 y hy).1⟩) f.outl f.st0;clear h f;unfold pickN;simp only at hP;generalize pickH ls (stOf T x.h) x.h k=r at *;obtain⟨⟨w1,w2,w3,w4,w5⟩,S,e⟩:=r;simp only at hP hS ⊢;by_cases he:e=0
 rotate_left
 .rw[if_pos he];have eb:(e != 0)=true:=bne_iff_ne.2 he;obtain⟨⟨h1,h2,h3,h4,h5'⟩,⟨m1,m2,⟨m3,m4,m5,m6,m7,m8⟩⟩,⟨u1,⟨u2,u3,u4,u5,u6,u7⟩⟩,⟨t1,t2,t3,t4⟩,got,heard,told,seen⟩:=x;refine zAa func48 λhs=>?_;(try simp(maxSteps:=2000000) (disch:=omega) only[go_sem,simprocAttr,zD,zE]);(refine zG ?_;refine qaa (hP) zB ?_);(try simp(maxSteps:=2000000) (disch:=omega) only[go_sem,simprocAttr,zD,zE,eb,errT,zNo,zHs,zMk,zHu,zTr,zPc])
 subst he;rw[if_neg wh];have hsend:=fun(o:List Ou) (n:Nat) (ho:o.length=n) (hn:n<=1000) (l:Int) (g:Fm)=>qcy N ls T ff ⟨⟨w1,w2,w3,w4,w5⟩,x.m,x.u,x.t,x.got,x.heard,x.told,x.seen⟩ n o [] [] 0 ⟨0,0,(0,0), [],0,0,0, []⟩ ho hn l g
 obtain⟨⟨h1,h2,h3,h4,h5'⟩,⟨m1,m2,⟨m3,m4,m5,m6,m7,m8⟩⟩,⟨u1,⟨u2,u3,u4,u5,u6,u7⟩⟩,⟨t1,t2,t3,t4⟩,got,heard,told,seen⟩:=x;simp only at *;cases ff
 .show Pure _ _ _ (.tup [_,lOus (S.map (sOu u1)),_]);obtain⟨F,hF⟩: ∃F,F=S.map (sOu u1):=⟨_,rfl⟩;rw[<-hF];have fL:F.length=S.length:=by rw[hF,Kb]
  have fS: ∀(i:Nat) (h:i < S.length),F.take i++ [sOu u1 S[i]]=F.take (i+1):=λi h=>by
   rw[hF,Kd vr,Ke]
  clear hF;refine zAa func48 λhs=>?_;(try simp(maxSteps:=2000000) (disch:=omega) only[go_sem,simprocAttr,zD,zE]);refine zY hP ?_;refine walk_ownB 4 0 32 10 trivial rfl rfl rfl (.inr rfl) ?_;simp only[Kf,Kg,Ko];refine zM [6,12,13,41,42,43,84] ?_;refine qac 200 200 (λi:Nat=>i<=S.length)
   (λi=>⟨59, [(6, .ptr 2 0 0 0),(12,sci .i64 u1),(13, .ptr 4 0 0 0),(41,lSs S),(42,sci .i64 S.length),(43,sci .i64 i)], [],6, [(5, .arr 10 i (ir eOu (F.take i))),(4, .arr 45 0 [wRow N ls T false ⟨⟨w1,w2,w3,w4,w5⟩,⟨m1,m2,⟨m3,m4,m5,m6,m7,m8⟩⟩,⟨u1,⟨u2,u3,u4,u5,u6,u7⟩⟩,⟨t1,t2,t3,t4⟩,got,heard,told,seen⟩ (.ref 5 i 0 i) [] [] 0 ⟨0,0,(0,0), [],0,0,0, []⟩]),(2, .arr 28 0 [[sci .i64 0,sci .i64 0,sci .i64 0,nil0,nil0,sci .i64 0,nil0,sci .i64 0,sci .i64 0,sci .i64 0,nil0,nil0,nil0,sci .i64 0,sci .i64 0,sci .i64 0,sci .i64 0,nil0,nil0,nil0,sci .i64 0,sci .i64 0,sci .i64 0,nil0,nil0,sci .i64 0,sci .i64 0,nil0]])]⟩) (λi=>S.length - i) (0) [] ?_ ?_ ?_
  .simp
  .exact zc (zQ @Kq (zQ @Ka.{0} (zQ @Kc.{0} @Kh.{0})))
  .rintro i hi;(try simp(maxSteps:=2000000) only[go_sem,simprocAttr]);by_cases li:i < S.length
   .have sS:=fS i li;have sL:(F.take i).length=i:=by rw[Ki];omega
    have hs:=hsend (F.take i) i sL wa;generalize hq:S[i]=s at *;obtain⟨s1,s2,s3⟩:=s;have hs:=hs s1 ⟨0,u1,(s2,s3), [],0,0,0, []⟩;have sS':F.take i++ [(⟨s1,⟨0,u1,(s2,s3), [],0,0,0, []⟩⟩:Ou)]=F.take (i+1):=sS;rw[sS'] at hs;generalize hFi:F.take i=Fi at *;(try simp(maxSteps:=2000000) (disch:=omega) only[go_sem,simprocAttr,zD,zE,eIII,hq]);refine zJ [4,5] hs ?_;refine⟨i+1, [],wd,?_,?_⟩
    ·(try simp only[]);omega
    .exact zc (zQ hFi @Kc.{0})
   .obtain rfl:i=S.length:=wa
    have hti:F.take S.length=F:=Ka wa;refine zS hti ?_;(refine zM [6,13,84] ?_;refine zI [U,U,U,U,some [2,3],U,U] ?_);refine zS hti ?_;(try rw[Ka wa]);(try trivial)
 .show Pure _ _ _ (.tup [_,lOus (S.map (sOu 0)),_]);obtain⟨F,hF⟩: ∃F,F=S.map (sOu 0):=⟨_,rfl⟩;rw[<-hF];have fL:F.length=S.length:=by rw[hF,Kb]
  have fS: ∀(i:Nat) (h:i < S.length),F.take i++ [sOu 0 S[i]]=F.take (i+1):=λi h=>by
   rw[hF,Kd vr,Ke]
  clear hF;refine zAa func48 λhs=>?_;(try simp(maxSteps:=2000000) (disch:=omega) only[go_sem,simprocAttr,zD,zE]);refine zY hP ?_;refine walk_ownB 4 0 32 10 trivial rfl rfl rfl (.inr rfl) ?_;simp only[Kf,Kg,Ko];refine zM [6,12,13,41,42,43,84] ?_;refine qac 200 200 (λi:Nat=>i<=S.length)
   (λi=>⟨59, [(6, .ptr 2 0 0 0),(12,sci .i64 0),(13, .ptr 4 0 0 0),(41,lSs S),(42,sci .i64 S.length),(43,sci .i64 i)], [],6, [(5, .arr 10 i (ir eOu (F.take i))),(4, .arr 45 0 [wRow N ls T true ⟨⟨w1,w2,w3,w4,w5⟩,⟨m1,m2,⟨m3,m4,m5,m6,m7,m8⟩⟩,⟨u1,⟨u2,u3,u4,u5,u6,u7⟩⟩,⟨t1,t2,t3,t4⟩,got,heard,told,seen⟩ (.ref 5 i 0 i) [] [] 0 ⟨0,0,(0,0), [],0,0,0, []⟩]),(2, .arr 28 0 [[sci .i64 0,sci .i64 0,sci .i64 0,nil0,nil0,sci .i64 0,nil0,sci .i64 0,sci .i64 0,sci .i64 0,nil0,nil0,nil0,sci .i64 0,sci .i64 0,sci .i64 0,sci .i64 0,nil0,nil0,nil0,sci .i64 0,sci .i64 0,sci .i64 0,nil0,nil0,sci .i64 0,sci .i64 0,nil0]])]⟩) (λi=>S.length - i) (0) [] ?_ ?_ ?_
  .simp
  .exact zc (zQ @Kq (zQ @Ka.{0} (zQ @Kc.{0} @Kh.{0})))
  .rintro i hi;(try simp(maxSteps:=2000000) only[go_sem,simprocAttr]);by_cases li:i < S.length
   .have sS:=fS i li;have sL:(F.take i).length=i:=by rw[Ki];omega
    have hs:=hsend (F.take i) i sL wa;generalize hq:S[i]=s at *;obtain⟨s1,s2,s3⟩:=s;have hs:=hs s1 ⟨0,0,(s2,s3), [],0,0,0, []⟩;have sS':F.take i++ [(⟨s1,⟨0,0,(s2,s3), [],0,0,0, []⟩⟩:Ou)]=F.take (i+1):=sS;rw[sS'] at hs;generalize hFi:F.take i=Fi at *;(try simp(maxSteps:=2000000) (disch:=omega) only[go_sem,simprocAttr,zD,zE,eIII,hq]);refine zJ [4,5] hs ?_;refine⟨i+1, [],wd,?_,?_⟩
    ·(try simp only[]);omega
    .exact zc (zQ hFi @Kc.{0})
   .obtain rfl:i=S.length:=wa
    have hti:F.take S.length=F:=Ka wa;refine zS hti ?_;(refine zM [6,13,84] ?_;refine zI [U,U,U,U,some [2,3],U,U] ?_);refine zS hti ?_;(try rw[Ka wa]);(try trivial)
structure gTd(d:Td):Prop where
 x:gNo d.x
 o:d.out.length<=1000000
 f: ∀o∈d.out,o.f.ps.length<=1000/\o.f.path.length<=1000000
 p:d.ps.length<=1000
 q:d.path.length<=1000000
end Go.Proofs.NO
namespace Go.Proofs.NO
open Go Go.Idl Go.Proofs Go.GP Go.GN Go.Proofs.Tryz
structure dOk(d:Td):Prop where
 o:d.out.length<=1010
 f: ∀o∈d.out,o.f.ps.length<=7/\o.f.path.length<=7
 p:d.ps.length<=7
 q:d.path.length<=7
def dOk.err(e):dOk (errT e):=⟨by simp[errT],by simp[errT],by simp[errT],by simp[errT]⟩
section
variable{N:Int}{ls:List (Int × Int)}{T:List Nd}{t:Int}{x:No}{ff:Bool}
theorem dok_tell{d}(n:NOk N ls T t d.x)(hp:d.ps= [])(j:d.path= [])(r:d.out.length<=1000)(i: ∀o∈d.out,o.f.ps.length<=7/\o.f.path.length<=7)(h:(qaz ls ff d).e=0):dOk (qaz ls ff d):=by
 have b:(qaz ls ff d).path= []:=by
  unfold qaz at h ⊢;split
  .split
   .rfl
   grind
  omega
 obtain⟨m,a,q⟩:=qqi n hp h;rcases q with ⟨rfl,g, -⟩ | ⟨-, -,P, -, -,p,⟨rfl,g⟩ | ⟨g,l,rfl⟩⟩
 .exact⟨wg,wn,wg,wg⟩
 .exact⟨wg,wg,wg,wg⟩
 .refine⟨wg,?_,wg,wg⟩
  grind
theorem ctl_short{k e l}:(⟨l,ctl k e⟩:Ou).f.ps.length<=7/\(⟨l,ctl k e⟩:Ou).f.path.length<=7:=by simp[ctl]
theorem qqw(h:NOk N ls T t x)(L:0<=t)(link:Int)(f:Fm)(M:(stOf T x.h).waits.length<=1000)(a:(hearN ls ff (stOf T x.h) x link f).e=0):dOk (hearN ls ff (stOf T x.h) x link f):=by
 unfold hearN at a ⊢;split
 .exact dOk.err 1
 rename_i c;rw[if_neg c] at a;have m:FrP f:=Kr λq=>c (.inr q)
 have O:=h.outs5;have b:=h.mono (u:=t+1) wa;split
 .rename_i v;unfold appN;split
  .exact dOk.err _
  .exact⟨wb,wb,wb,wb⟩
 rename_i v;rw[if_neg v] at a;split
 .rename_i n;rw[if_pos n] at a;have y:1<=f.epoch/\f.epoch<=200:=by
   rcases m with q | q | q | q
   .omega
   .omega
   .exact q.2.1.2.1
   .omega
  unfold floodedN at a ⊢;split
  .exact dOk.err _
  rename_i i;rw[if_neg i] at a;split
  .exact dOk.err _
  rename_i j;rw[if_neg j] at a;have A:NOk N ls T (t+1) ⟨x.h,if ff then(qaZ x.m x.h f.epoch (indexL link 0 (ins x.h.node 0 ls))).1 else x.m,if ff then x.u else(qaW x.u x.h f.epoch).1,x.t,x.got,x.heard,x.told,x.seen⟩:=by
   cases ff
   .exact b.turn y.2 wa
   .exact b.mark y wa _
  split
  .rename_i g;rw[if_pos g] at a;refine dok_tell (N:=N) (T:=T) (t:=t+1) A rfl rfl wb (λo d=>?_) a;rw[List.mem_singleton.1 d];exact ctl_short
  .rename_i g;rw[if_neg g] at a;have k:=b.td;refine dok_tell (N:=N) (T:=T) (t:=t+1) (NOk.flood ?_ ff _) rfl rfl ?_ ?_ a
   .refine A.tree ?_ ?_ ?_ ?_
    .unfold qcs;rw[if_neg g];simp only;split<;>omega
    .unfold qcs;rw[if_neg g];simp only;omega
    .unfold qcs;rw[if_neg g];simp;omega
    .unfold qcs;rw[if_neg g];simp only;omega
   .simp only[floodN,Kj,Kb,Kk];omega
   .intro o d;simp only[floodN] at d;rcases List.mem_append.1 d with d | d
    .rw[List.mem_singleton.1 d];exact ctl_short
    .obtain⟨l, -,rfl⟩:=List.mem_map.1 d;exact ctl_short
 rename_i n;rw[if_neg n] at a;split
 .rename_i r;rw[if_pos r] at a;unfold repliedN at a ⊢;split
  .exact dOk.err _
  rename_i i;rw[if_neg i] at a;have q: ¬(x.t.epoch≠f.epoch\/x.t.wait < 1):=λq=>i (by unfold replyT;rw[if_pos q];decide)
  have B: ¬x.t.wait < 1:=λz=>q (.inr z)
  have D:=h.tw;have E:=h.tk;have k:=h.td;refine dok_tell (N:=N) (T:=T) (t:=t+1) ?_ rfl rfl wb wb a;refine b.tree ?_ ?_ ?_ ?_
  .unfold replyT;rw[if_neg q];simp only;omega
  .unfold replyT;rw[if_neg q];exact h.te
  .unfold replyT;rw[if_neg q];simp only;split
   .simp only[Kj,Kk];omega
   .omega
  .unfold replyT;rw[if_neg q];exact k.2
 rename_i r;rw[if_neg r] at a;split
 .rename_i C;rw[if_pos C] at a;unfold reportedN at a ⊢;split
  .exact dOk.err _
  rename_i i;rw[if_neg i] at a;split
  .exact dOk.err _
  rename_i j;rw[if_neg j] at a;have F: ∀p∈f.ps,qaA p:=by
   rcases m with q | q | q | q
   .omega
   .omega
   .omega
   .exact q.2.2.2
  rcases mrg_cases x.got f.ps with ⟨q,_⟩ | ⟨_,B,G⟩
  .rw[q] at j;exact absurd wh j
  have H:=h.hd;refine dok_tell (N:=N) (T:=T) (t:=t+1) ?_ rfl rfl wb wb a;exact⟨b.host,b.st,b.gm,b.m0,b.mo,b.ml,b.gu,b.u0,b.un,b.tw,b.te,b.tk,λp s=>by
   rcases List.mem_append.1 (B.mem_iff.1 s) with z | z
   .exact h.got p z
   .exact F p z,G,⟨wc,wc⟩,b.td,b.sn⟩
 rename_i C;have I:qbm f:=by
  rcases m with q | q | q | q
  .exact q.2
  .omega
  .omega
  .omega
 have K:=I.2.2.2.2.2.2.1.2;unfold probedN hearP;split
 .exact⟨wb,wb,wb,wb⟩
 split
 .exact⟨wb,wb,wb,wc⟩
 split
 .exact⟨wb,wb,wb,wb⟩
 .refine⟨by simp only[sendsP,Kb];omega,?_,wb,wb⟩;intro o d;obtain⟨w, -,rfl⟩:=List.mem_map.1 d;simp only[Kj,Kk,List.length_nil];omega
theorem qpn(h:NOk N ls T t x)(d:0<=t)(e)(a:(startN ls ff x e).e=0):dOk (startN ls ff x e):=by
 unfold startN at a ⊢;split
 .exact dOk.err 1
 rename_i c;rw[if_neg c] at a;have b:1<=e/\e<=200/\x.t.epoch < e:=wa
 have g:NOk N ls T t ⟨x.h,if ff then qa8 x.h e else x.m,if ff then x.u else(qaW x.u x.h e).1,x.t,x.got,x.heard,x.told,x.seen⟩:=by
  cases ff
  .exact h.turn b.2.1 d
  .exact h.begin_ ⟨b.1,b.2.1⟩ d
 have j:=h.outs5;have i:=h.td;refine dok_tell (N:=N) (T:=T) (t:=t) (NOk.flood ?_ ff _) rfl rfl ?_ ?_ a
 .refine g.tree ?_ ?_ ?_ ?_<;>grind[qgB]
 .grind[floodN]
 .intro o f;obtain⟨l, -,rfl⟩:=List.mem_map.1 f;exact ctl_short
theorem qp3(h:NOk N ls T t x)(f:t<=1000)(k):(pickH ls (stOf T x.h) x.h k).2.1.length<=4:=by
 obtain⟨n,j,i,g⟩:=h.hf;have b:=h.st;rcases g.pick wa k with ⟨e,c,a⟩ | ⟨l,S,c,a,m,d⟩<;>simp_all
noncomputable def callN(ls:List (Int × Int))(ff:Bool)(T:List Nd)(x:No)(o:Op):Td:=
 if bits .and .i64 o.kind 3=0 then pickN ls ff (stOf T x.h) x o.n else if bits .and .i64 o.kind 3=1 then startN ls ff x o.n else hearN ls ff (stOf T x.h) x o.link (cutF o.f)
end
end Go.Proofs.NO
/- A call of both: both are as they were told, and tell the same. -/
namespace Go.Proofs.NO
open Go Go.Idl Go.Proofs Go.GP Go.Proofs.Tryz
set_option maxHeartbeats 0
set_option maxRecDepth 100000
end Go.Proofs.NO
/- All steps of a list, in both systems. -/
namespace Go.Proofs.NO
open Go Go.Idl Go.Proofs Go.GP Go.Proofs.Tryz
def qrs{ls:List (Int × Int)}{ff:Bool}{t:Td}(h:(qaz ls ff t).e=0): ∃tail,(qaz ls ff t).out=t.out++tail/\(∀o∈tail,o.f.kind=5)/\(qaz ls ff t).x.h=t.x.h/\tail.length<=1:=by
 unfold qaz at h ⊢;split
 .rename_i c;rw[if_pos c] at h;split
  .rename_i c2;rw[if_pos c2] at h;exact absurd h c2
  .split
   .exact⟨[],wb,wb,rfl,wb⟩
   .exact⟨_,rfl,λo ho=>by rw[List.mem_singleton.1 ho],rfl,Nat.le_refl 1⟩
 .exact⟨[],wb,wb,rfl,wb⟩
end Go.Proofs.NO
namespace Go.Proofs.NO
open Go Go.Idl Go.Proofs Go.GP Go.GN Go.Proofs.Tryz
def qn2(s:Int × Int × Int):Prop:=(1<=s.2.1/\s.2.1<=500)/\0<=s.2.2/\s.2.2<=3
def qlT{ls n}: ∀ {sends out sent r},
  (∀y∈sends,LetP y.2)->(∀s∈sent,qn2 s)->pkGo ls n sends out sent=some r-> ∀s∈r.2,qn2 s
 | [],out,sent,r,_,b,h=>by
   grind[pkGo]
 | s::sends,out,sent,r,d,b,h=>by
   unfold pkGo at h;split at h
   .grind
   refine qlT (λy e=>d y wg) (λx a=>?_) h;rcases List.mem_append.1 a with a | a
   .grind
   .have f:=d s wb;unfold LetP at f;refine⟨⟨wg,wg⟩,wg,wg⟩
def FOk(o:Ou):Prop:=o.f.kind=5\/o.f.kind=6\/(FrP o.f/\o.f.ps= [])
def fok_ctl{l k e}(h:1<=k/\k<=4)(a:1<=e/\e<=200):(⟨l,ctl k e⟩:Ou).f.kind≠0/\FOk ⟨l,ctl k e⟩:=
 ⟨by simp[ctl];omega, .inr (.inr ⟨.inr (.inr (.inl ⟨h,⟨⟨rfl,rfl,rfl,rfl⟩,a,rfl⟩,rfl⟩)),rfl⟩)⟩
section
variable{N:Int}{ls:List (Int × Int)}{T:List Nd}{t:Int}{x:No}{ff:Bool}{st:St}
theorem host_tell{d}(h:(qaz ls ff d).e=0)(f: ∀o∈d.out,o.f.kind≠0/\FOk o):(qaz ls ff d).x.h=d.x.h/\ ∀o∈(qaz ls ff d).out,o.f.kind≠0/\FOk o:=by
 obtain⟨b,g,c,i, -⟩:=qrs h;refine⟨i,λo a=>?_⟩;rw[g] at a;rcases List.mem_append.1 a with a | a
 .grind
 .exact⟨wg, .inl (c o a)⟩
theorem qpD{link:Int}{f:Fm}(m:f.kind≠0)(h:(hearN ls ff st x link f).e=0):(hearN ls ff st x link f).x.h=x.h/\ ∀o∈(hearN ls ff st x link f).out,o.f.kind≠0/\FOk o:=by
 unfold hearN at h ⊢;split
 .rename_i c;rw[if_pos c] at h;cases h
 rename_i c;rw[if_neg c] at h;have n:FrP f:=Kr λq=>c (.inr q)
 rw[if_neg m] at h;split
 .rename_i k;rw[if_pos k] at h;have g:1<=f.epoch/\f.epoch<=200:=by
   rcases n with q | q | q | q
   .omega
   .omega
   .exact q.2.1.2.1
   .omega
  unfold floodedN at h ⊢;split
  .rename_i b;rw[if_pos b] at h;cases h
  rename_i b;rw[if_neg b] at h;split
  .rename_i d;rw[if_pos d] at h;cases h
  rename_i d;rw[if_neg d] at h;split
  .rename_i i;rw[if_pos i] at h;refine host_tell h λo a=>?_;rw[List.mem_singleton.1 a];exact fok_ctl wh g
  .rename_i i;rw[if_neg i] at h;refine host_tell h λo a=>?_;simp only[floodN] at a;rcases List.mem_append.1 a with a | a
   .rw[List.mem_singleton.1 a];exact fok_ctl wh g
   .obtain⟨l, -,rfl⟩:=List.mem_map.1 a;have:=qlB ff;exact fok_ctl wa g
 rename_i k;rw[if_neg k] at h;split
 .rename_i j;rw[if_pos j] at h;unfold repliedN at h ⊢;split
  .rename_i b;rw[if_pos b] at h;exact absurd h b
  rename_i b;rw[if_neg b] at h;exact host_tell h wb
 rename_i j;rw[if_neg j] at h;split
 .rename_i p;rw[if_pos p] at h;unfold reportedN at h ⊢;split
  .rename_i b;rw[if_pos b] at h;cases h
  rename_i b;rw[if_neg b] at h;split
  .rename_i d;rw[if_pos d] at h;exact absurd h d
  rename_i d;rw[if_neg d] at h;exact host_tell h wb
 .refine⟨rfl,λo a=>?_⟩;unfold probedN hearP at a;split at a
  .cases a
  split at a
  .cases a
  split at a
  .cases a
  .obtain⟨w, -,rfl⟩:=List.mem_map.1 a;exact⟨wb, .inr (.inl rfl)⟩
theorem qqL{link f}(b:f.kind=0)(h:(hearN ls ff st x link f).e=0):(takeH ls st x.h link f.m).2=0/\(hearN ls ff st x link f).x.h=(takeH ls st x.h link f.m).1/\(hearN ls ff st x link f).out= []:=by
 unfold hearN at h ⊢;split
 .rename_i c;rw[if_pos c] at h;cases h
 rename_i c;rw[if_neg c,if_pos b] at h;unfold appN at h ⊢;split
 .rename_i a;rw[if_pos a] at h;exact absurd h a
 grind
theorem host_start{e}(h:(startN ls ff x e).e=0):(startN ls ff x e).x.h=x.h/\ ∀o∈(startN ls ff x e).out,o.f.kind≠0/\FOk o:=by
 unfold startN at h ⊢;split
 .rename_i c;rw[if_pos c] at h;cases h
 rename_i c;rw[if_neg c] at h;refine host_tell h λo a=>?_;obtain⟨l, -,rfl⟩:=List.mem_map.1 a;have:=qlB ff;exact fok_ctl wa wa
theorem qpE(h:NOk N ls T t x)(z:t<=1000)(k):
  (pickN ls ff (stOf T x.h) x k).e=(pickH ls (stOf T x.h) x.h k).2.2/\(pickN ls ff (stOf T x.h) x k).out=(pickH ls (stOf T x.h) x.h k).2.1.map (sOu (if ff then 0 else x.u.epoch))/\
  ((pickN ls ff (stOf T x.h) x k).e=0->(pickN ls ff (stOf T x.h) x k).x.h=(pickH ls (stOf T x.h) x.h k).1)/\ ∀o∈(pickN ls ff (stOf T x.h) x k).out,FOk o:=by
 have A:=h.u0;have l: ∀s∈(pickH ls (stOf T x.h) x.h k).2.1,qn2 s:=by
  obtain⟨n,j,B,f⟩:=h.hf;rcases pickH_cases (ls:=ls) (st:=stOf T x.h) (h:=x.h) (k:=k) with ⟨e, -,d⟩ | ⟨p,g,a,i,b,e⟩
  .grind
  .rw[e];obtain⟨C,D,m⟩:=f.picks p i;exact qlT (λy r=>(m y r).2) wb b
 have u:(pickH ls (stOf T x.h) x.h k).2.2≠0->(pickH ls (stOf T x.h) x.h k).2.1= []:=by
  rcases pickH_cases (ls:=ls) (st:=stOf T x.h) (h:=x.h) (k:=k) with ⟨e, -,d⟩ | ⟨p,g,a,i,b,e⟩<;>simp_all
 unfold pickN;split
 .simp_all[errT]
 .rename_i c;refine⟨(Kr c).symm,rfl,λ_=>rfl,λo v=>?_⟩;obtain⟨s,w,rfl⟩:=List.mem_map.1 v;have:=l s w;refine .inr (.inr ⟨.inr (.inl ⟨rfl,⟨rfl,rfl,rfl,rfl⟩,?_,rfl,this.1,this.2⟩),rfl⟩)
  grind
end
end Go.Proofs.NO
