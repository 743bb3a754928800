/- A frame that comes: the dispatch. -/
import Derived.Test.YtfhhdgkhajkapaaGreatNNp
set_option linter.all false
open True renaming intro->Ka
namespace Go.Proofs.NO
open Go Go.Idl Go.Proofs Go.GP Go.Proofs.Tryz
set_option maxHeartbeats 0
set_option maxRecDepth 100000
def qnm(N:Int)(ls:List (Int × Int))(T:List Nd)(ff:Bool)(link:Int)(f:Fm):hOc N ls T ff link f (errT 1)= .pan:=by
 unfold hOc wOc errT;split<;>rfl
def qfq{N:Int}{ls:List (Int × Int)}{T:List Nd}{ff:Bool}{link:Int}{f:Fm}{d:Td}(h:f.kind≠6):hOc N ls T ff link f d=wOc N ls T ff link f d:=if_neg h
def hOc_6{N:Int}{ls:List (Int × Int)}{T:List Nd}{ff:Bool}{link:Int}{f:Fm}{d:Td}(h:f.kind=6)(he:d.e=0):hOc N ls T ff link f d= .ok 0 (.tup []) [(0, .arr 45 0 [wRow N ls T ff d.x (lOus d.out) d.ps d.path link f])]:=by
 rw[hOc,if_pos h,if_pos he]
def qpC(N:Int)(ls:List (Int × Int))(T:List Nd)(ff:Bool)(x:No)(link:Int)(f:Fm)(t:Int)(h:NOk N ls T t x)(ht:0<=t)(hb:t<=1000)(hl:ls.length<=1000000)(hT:qd9 T)
  (hw:(stOf T x.h).waits.length<=1000) (hg: ∀p∈f.ps,gPc p):
  ∃pd,PB prog 109 [.ptr 0 0 0 0] [.arr 45 0 [wRow N ls T ff x (.ref 1 0 0 0) [] [] link f], .arr 10 0 (ir eOu [])] (nch (hearN ls ff (stOf T x.h) x link f).e) (Wq N ls T ff link f pd) (hOc N ls T ff link f (hearN ls ff (stOf T x.h) x link f)):=by
 have hPl:=qfF N ls T ff x 0 [] [] [] link f hl;have hFr:=qmT f hg;by_cases c:indexL link 0 (ins x.h.node 0 ls) < 0
 .have z:hearN ls ff (stOf T x.h) x link f=errT 1:=by unfold hearN;rw[if_pos (.inl c)]
  rw[z,qnm];refine⟨⟨x, [], [], [],0⟩,?_⟩;show PX _ _ _ _ _ _;generalize indexL link 0 (ins x.h.node 0 ls)=at_ at *;have c': ¬at_>=0:=wa
  refine zAy func109 2 λhs=>?_;(refine at_g 200 ?_;refine zW ?_;refine callG_of [0,1] (hPl) zU ?_);refine zS c' ?_;(refine at_x ?_;refine zW ?_;refine qaw [] (qcM 1) zU ?_);rintro W rfl;refine zP ?_;exact endX_of [(0, .arr 45 0 [wRow N ls T ff x (.ref 1 0 0 0) [] [] link f]),(1, .arr 10 0 (ir eOu []))] zAe zAe zAe zAe zAe
 by_cases hF:FrP f
 rotate_left
 .have z:hearN ls ff (stOf T x.h) x link f=errT 1:=by unfold hearN;rw[if_pos (.inr hF)]
  rw[z,qnm];refine⟨⟨x, [], [], [],0⟩,?_⟩;show PX _ _ _ _ _ _;rw[qah hF] at hFr;generalize indexL link 0 (ins x.h.node 0 ls)=at_ at *;have c':at_>=0:=wa
  refine zAy func109 2 λhs=>?_;(refine at_g 200 ?_;refine zW ?_;refine callG_of [0,1] (hPl) zU ?_);refine zS c' ?_;refine zY hFr ?_;(refine at_x ?_;refine zW ?_;refine qaw [] (qcM 1) zU ?_);rintro W rfl;refine zP ?_;exact endX_of [(0, .arr 45 0 [wRow N ls T ff x (.ref 1 0 0 0) [] [] link f]),(1, .arr 10 0 (ir eOu []))] zAe zAe zAe zAe zAe
 rw[qap hF] at hFr;have hx0: ¬(indexL link 0 (ins x.h.node 0 ls) < 0\/ ¬FrP f):=λq=>q.elim c λq=>q hF
 have hAp:=qqt N ls T ff x link f t h ht hb hl hT;have hFl:=qll N ls T ff x link f t h ht hb hl;have hRe:=qlX N ls T ff x link f t h ht hb hl;have hRp:=qj6 N ls T ff x link f t h ht hb hl;have hPr:=qm4 N ls T ff x link f t h ht hb hl hT;have z0:hearN ls ff (stOf T x.h) x link f=(if f.kind=0 then appN ls ff (stOf T x.h) x link f else if f.kind=1\/f.kind=2 then floodedN ls ff x link f else if f.kind=3\/f.kind=4 then repliedN ls ff x link f
   else if f.kind=5 then reportedN ls ff x link f else probedN ls (stOf T x.h) x link f):=by
  unfold hearN;rw[if_neg hx0]
 rw[z0];clear z0 hx0;have hF2:=hF;have c':indexL link 0 (ins x.h.node 0 ls)>=0:=wa
 clear c;generalize indexL link 0 (ins x.h.node 0 ls)=at_ at hPl c';obtain⟨fk,fe,fm,fps,fi,fn,fc,fp⟩:=f;simp only at hFr hPl hAp hFl hRe hRp hPr hg;unfold FrP at hF2;simp only[CtlF] at hF2;obtain rfl | rfl | rfl | rfl | rfl | rfl | rfl:fk=0\/fk=1\/fk=2\/fk=3\/fk=4\/fk=5\/fk=6:=by
  rcases hF2 with q | q | q | q<;>omega
 .obtain⟨pd,hX⟩:=hAp;refine⟨pd,?_⟩;simp only;rw[if_pos trivial];generalize appN ls ff (stOf T x.h) x link ⟨0,fe,fm,fps,fi,fn,fc,fp⟩=r at *;rw[qfq (f:=⟨0,fe,fm,fps,fi,fn,fc,fp⟩) (by show(0:Int)≠6;decide)];by_cases he:r.e=0
  .have hT2:=qcl hX he;rw[wOc,if_pos he];show PG _ _ _ _ _ _ _;refine zAh func109 2 λhs=>?_;(refine at_g 200 ?_;refine zW ?_;refine callG_of [0,1] (hPl) zU ?_);refine zS c' ?_;refine zY hFr ?_;refine zY (qau 1) ?_;(refine at_g 200 ?_;refine zW ?_;refine callG_of [0,1] (hT2) zU ?_;exact zT)
  .have hT2:=qck hX he;rw[wOc,if_neg he];show PX _ _ _ _ _ _;refine zAy func109 2 λhs=>?_;(refine at_g 200 ?_;refine zW ?_;refine callG_of [0,1] (hPl) zU ?_);refine zS c' ?_;refine zY hFr ?_;refine zY (qau 1) ?_;(refine at_x ?_;refine zW ?_;refine qaw [0,1] (hT2) zU ?_);rintro W rfl;refine zP ?_;exact endX_of [(0, .arr 45 0 [wRow N ls T ff pd.x (.ref 1 pd.out.length 0 pd.out.length) pd.ps pd.path link ⟨0,fe,fm,fps,fi,fn,fc,fp⟩]),(1, .arr 10 pd.out.length (ir eOu pd.out))] zAe zAe zAe zAe zAe
 .have e0:1<=fe/\fe<=200:=by
   rcases hF2 with q | q | q | q
   .omega
   .omega
   .exact q.2.1.2.1
   .omega
  obtain⟨pd,hX⟩:=hFl e0;refine⟨pd,?_⟩;simp only;rw[if_neg wh,if_pos wh];generalize floodedN ls ff x link ⟨1,fe,fm,fps,fi,fn,fc,fp⟩=r at *;rw[qfq (f:=⟨1,fe,fm,fps,fi,fn,fc,fp⟩) (by show(1:Int)≠6;decide)];by_cases he:r.e=0
  .have hT2:=qcl hX he;rw[wOc,if_pos he];show PG _ _ _ _ _ _ _;refine zAh func109 2 λhs=>?_;(refine at_g 200 ?_;refine zW ?_;refine callG_of [0,1] (hPl) zU ?_);refine zS c' ?_;refine zY hFr ?_;refine zY (qau 1) ?_;(refine at_g 200 ?_;refine zW ?_;refine callG_of [0,1] (hT2) zU ?_;exact zT)
  .have hT2:=qck hX he;rw[wOc,if_neg he];show PX _ _ _ _ _ _;refine zAy func109 2 λhs=>?_;(refine at_g 200 ?_;refine zW ?_;refine callG_of [0,1] (hPl) zU ?_);refine zS c' ?_;refine zY hFr ?_;refine zY (qau 1) ?_;(refine at_x ?_;refine zW ?_;refine qaw [0,1] (hT2) zU ?_);rintro W rfl;refine zP ?_;exact endX_of [(0, .arr 45 0 [wRow N ls T ff pd.x (.ref 1 pd.out.length 0 pd.out.length) pd.ps pd.path link ⟨1,fe,fm,fps,fi,fn,fc,fp⟩]),(1, .arr 10 pd.out.length (ir eOu pd.out))] zAe zAe zAe zAe zAe
 .have e0:1<=fe/\fe<=200:=by
   rcases hF2 with q | q | q | q
   .omega
   .omega
   .exact q.2.1.2.1
   .omega
  obtain⟨pd,hX⟩:=hFl e0;refine⟨pd,?_⟩;simp only;rw[if_neg wh,if_pos wh];generalize floodedN ls ff x link ⟨2,fe,fm,fps,fi,fn,fc,fp⟩=r at *;rw[qfq (f:=⟨2,fe,fm,fps,fi,fn,fc,fp⟩) (by show(2:Int)≠6;decide)];by_cases he:r.e=0
  .have hT2:=qcl hX he;rw[wOc,if_pos he];show PG _ _ _ _ _ _ _;refine zAh func109 2 λhs=>?_;(refine at_g 200 ?_;refine zW ?_;refine callG_of [0,1] (hPl) zU ?_);refine zS c' ?_;refine zY hFr ?_;refine zY (qau 1) ?_;(refine at_g 200 ?_;refine zW ?_;refine callG_of [0,1] (hT2) zU ?_;exact zT)
  .have hT2:=qck hX he;rw[wOc,if_neg he];show PX _ _ _ _ _ _;refine zAy func109 2 λhs=>?_;(refine at_g 200 ?_;refine zW ?_;refine callG_of [0,1] (hPl) zU ?_);refine zS c' ?_;refine zY hFr ?_;refine zY (qau 1) ?_;(refine at_x ?_;refine zW ?_;refine qaw [0,1] (hT2) zU ?_);rintro W rfl;refine zP ?_;exact endX_of [(0, .arr 45 0 [wRow N ls T ff pd.x (.ref 1 pd.out.length 0 pd.out.length) pd.ps pd.path link ⟨2,fe,fm,fps,fi,fn,fc,fp⟩]),(1, .arr 10 pd.out.length (ir eOu pd.out))] zAe zAe zAe zAe zAe
 .obtain⟨pd,hX⟩:=hRe;refine⟨pd,?_⟩;simp only;rw[if_neg wh,if_neg wh,if_pos wh];generalize repliedN ls ff x link ⟨3,fe,fm,fps,fi,fn,fc,fp⟩=r at *;rw[qfq (f:=⟨3,fe,fm,fps,fi,fn,fc,fp⟩) (by show(3:Int)≠6;decide)];by_cases he:r.e=0
  .have hT2:=qcl hX he;rw[wOc,if_pos he];show PG _ _ _ _ _ _ _;refine zAh func109 2 λhs=>?_;(refine at_g 200 ?_;refine zW ?_;refine callG_of [0,1] (hPl) zU ?_);refine zS c' ?_;refine zY hFr ?_;refine zY (qau 1) ?_;(refine at_g 200 ?_;refine zW ?_;refine callG_of [0,1] (hT2) zU ?_;exact zT)
  .have hT2:=qck hX he;rw[wOc,if_neg he];show PX _ _ _ _ _ _;refine zAy func109 2 λhs=>?_;(refine at_g 200 ?_;refine zW ?_;refine callG_of [0,1] (hPl) zU ?_);refine zS c' ?_;refine zY hFr ?_;refine zY (qau 1) ?_;(refine at_x ?_;refine zW ?_;refine qaw [0,1] (hT2) zU ?_);rintro W rfl;refine zP ?_;exact endX_of [(0, .arr 45 0 [wRow N ls T ff pd.x (.ref 1 pd.out.length 0 pd.out.length) pd.ps pd.path link ⟨3,fe,fm,fps,fi,fn,fc,fp⟩]),(1, .arr 10 pd.out.length (ir eOu pd.out))] zAe zAe zAe zAe zAe
 .obtain⟨pd,hX⟩:=hRe;refine⟨pd,?_⟩;simp only;rw[if_neg wh,if_neg wh,if_pos wh];generalize repliedN ls ff x link ⟨4,fe,fm,fps,fi,fn,fc,fp⟩=r at *;rw[qfq (f:=⟨4,fe,fm,fps,fi,fn,fc,fp⟩) (by show(4:Int)≠6;decide)];by_cases he:r.e=0
  .have hT2:=qcl hX he;rw[wOc,if_pos he];show PG _ _ _ _ _ _ _;refine zAh func109 2 λhs=>?_;(refine at_g 200 ?_;refine zW ?_;refine callG_of [0,1] (hPl) zU ?_);refine zS c' ?_;refine zY hFr ?_;refine zY (qau 1) ?_;(refine at_g 200 ?_;refine zW ?_;refine callG_of [0,1] (hT2) zU ?_;exact zT)
  .have hT2:=qck hX he;rw[wOc,if_neg he];show PX _ _ _ _ _ _;refine zAy func109 2 λhs=>?_;(refine at_g 200 ?_;refine zW ?_;refine callG_of [0,1] (hPl) zU ?_);refine zS c' ?_;refine zY hFr ?_;refine zY (qau 1) ?_;(refine at_x ?_;refine zW ?_;refine qaw [0,1] (hT2) zU ?_);rintro W rfl;refine zP ?_;exact endX_of [(0, .arr 45 0 [wRow N ls T ff pd.x (.ref 1 pd.out.length 0 pd.out.length) pd.ps pd.path link ⟨4,fe,fm,fps,fi,fn,fc,fp⟩]),(1, .arr 10 pd.out.length (ir eOu pd.out))] zAe zAe zAe zAe zAe
 .have e5:(1<=fps.length/\fps.length<=6)/\ ∀p∈fps,qaA p:=by
   rcases hF2 with q | q | q | q
   .omega
   .omega
   .omega
   .exact q.2.2
  obtain⟨pd,hX⟩:=hRp e5.2 e5.1.2;refine⟨pd,?_⟩;simp only;rw[if_neg wh,if_neg wh,if_neg wh,if_pos trivial];generalize reportedN ls ff x link ⟨5,fe,fm,fps,fi,fn,fc,fp⟩=r at *;rw[qfq (f:=⟨5,fe,fm,fps,fi,fn,fc,fp⟩) (by show(5:Int)≠6;decide)];by_cases he:r.e=0
  .have hT2:=qcl hX he;rw[wOc,if_pos he];show PG _ _ _ _ _ _ _;refine zAh func109 2 λhs=>?_;(refine at_g 200 ?_;refine zW ?_;refine callG_of [0,1] (hPl) zU ?_);refine zS c' ?_;refine zY hFr ?_;refine zY (qau 1) ?_;(refine at_g 200 ?_;refine zW ?_;refine callG_of [0,1] (hT2) zU ?_;exact zT)
  .have hT2:=qck hX he;rw[wOc,if_neg he];show PX _ _ _ _ _ _;refine zAy func109 2 λhs=>?_;(refine at_g 200 ?_;refine zW ?_;refine callG_of [0,1] (hPl) zU ?_);refine zS c' ?_;refine zY hFr ?_;refine zY (qau 1) ?_;(refine at_x ?_;refine zW ?_;refine qaw [0,1] (hT2) zU ?_);rintro W rfl;refine zP ?_;exact endX_of [(0, .arr 45 0 [wRow N ls T ff pd.x (.ref 1 pd.out.length 0 pd.out.length) pd.ps pd.path link ⟨5,fe,fm,fps,fi,fn,fc,fp⟩]),(1, .arr 10 pd.out.length (ir eOu pd.out))] zAe zAe zAe zAe zAe
 .have e6:(0<=fi/\fi<=5)/\fp.length<=6:=by
   rcases hF2 with q | q | q | q
   .exact⟨q.2.2.2.2.1,q.2.2.2.2.2.2.2.1.2⟩
   .omega
   .omega
   .omega
  have hX:=hPr e6.1 wa hw;refine⟨⟨x, [], [], [],0⟩,?_⟩;simp only;rw[if_neg wh,if_neg wh,if_neg wh,if_neg wh,hOc_6 (f:=⟨6,fe,fm,fps,fi,fn,fc,fp⟩) rfl (show(probedN ls (stOf T x.h) x link ⟨6,fe,fm,fps,fi,fn,fc,fp⟩).e=0 from rfl)];show PG _ _ _ _ _ _ _;have hps:(probedN ls (stOf T x.h) x link ⟨6,fe,fm,fps,fi,fn,fc,fp⟩).ps= []:=rfl;rw[hps];generalize probedN ls (stOf T x.h) x link ⟨6,fe,fm,fps,fi,fn,fc,fp⟩=r at *;refine zAh func109 2 λhs=>?_;(refine at_g 200 ?_;refine zW ?_;refine callG_of [0,1] (hPl) zU ?_);refine zS c' ?_;refine zY hFr ?_;refine zY (qau 1) ?_;(refine at_g 200 ?_;refine zW ?_;refine callG_of [0,1] (hX) zU ?_;exact zT)
end Go.Proofs.NO
