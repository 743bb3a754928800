/- What frames do to a node: a reply, a report. -/
import Derived.Test.YtfhhdgkhajkapaaGreatNNk
set_option linter.all false
open Option renaming none->U,some->V
namespace Go.Proofs.NO
open Go Go.Idl Go.Proofs Go.GP Go.Proofs.Tryz
set_option maxHeartbeats 0
set_option maxRecDepth 100000
def qlX(N:Int)(ls:List (Int × Int))(T:List Nd)(ff:Bool)(x:No)(link:Int)(f:Fm)(t:Int)(h:NOk N ls T t x)(ht:0<=t)(hb:t<=1000)(hl:ls.length<=1000000):
  ∃pd,PB prog 187 [.ptr 0 0 0 0] [.arr 45 0 [wRow N ls T ff x (.ref 1 0 0 0) [] [] link f], .arr 10 0 (ir eOu [])] (nch (repliedN ls ff x link f).e) (Wq N ls T ff link f pd) (wOc N ls T ff link f (repliedN ls ff x link f)):=by
 have htw:=h.tw;have htk:=h.tk;have hB:=qf1 N ls T ff x 0 [] [] [] link f hl;have hR:=qm5 x.t f.epoch (qaE ls link) (f.kind==3) wa wa;have hn:=h.got6;have hg:=ggot h;have ho:=gown h hb ff;by_cases c:(replyT x.t f.epoch (qaE ls link) (f.kind==3)).2=0
 rotate_left
 .have z:repliedN ls ff x link f=errT (replyT x.t f.epoch (qaE ls link) (f.kind==3)).2:=by unfold repliedN;rw[if_pos c]
  rw[z,wOc,if_neg (show ¬(errT (replyT x.t f.epoch (qaE ls link) (f.kind==3)).2).e=0 from c)];refine⟨⟨x, [], [], [],0⟩,?_⟩;show PX _ _ _ _ _ _;generalize replyT x.t f.epoch (qaE ls link) (f.kind==3)=r at *;refine zAy func187 2 λhs=>?_;refine zN [0] [U,U,U,U,U,U,U,U,U,U,U,V [0,1,2,3,4,5,6,7,8,9,12,13,14,15,16,17,22],U,U,U,U,U,U,V [22],U,U,U,V [0,1,2,3,4,5,6,7,8,9,10,11,12,13,14,15,16,17,18,19,20,21],V [21],U] ?_;refine zK [0,1] hB ?_;refine zX hR ?_;(refine at_x ?_;refine zW ?_;refine qaw [] (qg3 _ c) zU ?_);rintro W rfl;refine zP ?_;exact endX_of [(0, .arr 45 0 [wRow N ls T ff x (.ref 1 0 0 0) [] [] link f]),(1, .arr 10 0 (ir eOu []))] zAe zAe zAe zAe zAe
 have z:repliedN ls ff x link f=qaz ls ff ⟨⟨x.h,x.m,x.u,(replyT x.t f.epoch (qaE ls link) (f.kind==3)).1,x.got,x.heard,x.told,x.seen⟩, [], [], [],0⟩:=by
  unfold repliedN;rw[if_neg (λq=>q c)]
 have hT:=qbQ N ls T ff ⟨⟨x.h,x.m,x.u,(replyT x.t f.epoch (qaE ls link) (f.kind==3)).1,x.got,x.heard,x.told,x.seen⟩, [], [], [],0⟩ link f wb hl rfl hg (by cases ff<;>exact ho) (show x.got.length<=18 by omega);rw[<-z] at hT;refine⟨⟨⟨x.h,x.m,x.u,(replyT x.t f.epoch (qaE ls link) (f.kind==3)).1,x.got,x.heard,x.told,x.seen⟩, [], [], [],0⟩,?_⟩;clear z;simp only[List.length_nil] at hT;generalize replyT x.t f.epoch (qaE ls link) (f.kind==3)=r at *;obtain⟨t',e⟩:=r;simp only at c hR hT;subst c;generalize repliedN ls ff x link f=r at *;by_cases he:r.e=0
 .have hT2:=qcl hT he;rw[wOc,if_pos he];show PG _ _ _ _ _ _ _;refine zAh func187 2 λhs=>?_;refine zN [0] [U,U,U,U,U,U,U,U,U,U,U,V [0,1,2,3,4,5,6,7,8,9,12,13,14,15,16,17,22],U,U,U,U,U,U,V [22],U,U,U,V [0,1,2,3,4,5,6,7,8,9,10,11,12,13,14,15,16,17,18,19,20,21],V [21],U] ?_;refine zK [0,1] hB ?_;refine zX hR ?_;refine zY qb0 ?_;(refine at_g 200 ?_;refine zW ?_;refine callG_of [0,1] (hT2) zU ?_;exact zT)
 .have hT2:=qck hT he;rw[wOc,if_neg he];show PX _ _ _ _ _ _;refine zAy func187 2 λhs=>?_;refine zN [0] [U,U,U,U,U,U,U,U,U,U,U,V [0,1,2,3,4,5,6,7,8,9,12,13,14,15,16,17,22],U,U,U,U,U,U,V [22],U,U,U,V [0,1,2,3,4,5,6,7,8,9,10,11,12,13,14,15,16,17,18,19,20,21],V [21],U] ?_;refine zK [0,1] hB ?_;refine zX hR ?_;refine zY qb0 ?_;(refine at_x ?_;refine zW ?_;refine qaw [0,1] (hT2) zU ?_);rintro W rfl;refine zP ?_;exact endX_of [(0, .arr 45 0 [wRow N ls T ff ⟨x.h,x.m,x.u,t',x.got,x.heard,x.told,x.seen⟩ (.ref 1 0 0 0) [] [] link f]),(1, .arr 10 0 (ir eOu []))] zAe zAe zAe zAe zAe
def qj6(N:Int)(ls:List (Int × Int))(T:List Nd)(ff:Bool)(x:No)(link:Int)(f:Fm)(t:Int)(h:NOk N ls T t x)(ht:0<=t)(hb:t<=1000)(hl:ls.length<=1000000)(hp: ∀p∈f.ps,qaA p)(h6:f.ps.length<=6):
  ∃pd,PB prog 188 [.ptr 0 0 0 0] [.arr 45 0 [wRow N ls T ff x (.ref 1 0 0 0) [] [] link f], .arr 10 0 (ir eOu [])] (nch (reportedN ls ff x link f).e) (Wq N ls T ff link f pd) (wOc N ls T ff link f (reportedN ls ff x link f)):=by
 have hB:=qf1 N ls T ff x 0 [] [] [] link f hl;have hn:=h.got6;have hg:=ggot h;have ho:=gown h hb ff;have hC:=qfQ x.t.kids (qaE ls link);have hM:=qhS x.got f.ps hg (λp hq=>(PcB.of (hp p hq)).g wa) wa;have hd:=h.hd;by_cases c:f.epoch≠x.t.epoch\/x.told=f.epoch\/qaE ls link ∉ x.t.kids
 .have z:reportedN ls ff x link f=errT 1:=by unfold reportedN;rw[if_pos c]
  rw[z,wOc,if_neg wh];refine⟨⟨x, [], [], [],0⟩,?_⟩;show PX _ _ _ _ _ _;by_cases c1:f.epoch=x.t.epoch
  rotate_left
  .have c1':(f.epoch==x.t.epoch)=false:=beq_eq_false_iff_ne.2 c1;refine zAx func188 2 λhs=>?_;(refine walk_trim [0] trivial zL ?_;refine zW ?_;refine qcW [U,U,U,U,U,U,U,U,U,U,U,U,U,U,U,U,U,U,U,U,U,U,U,U,U,U,U,U,U,U,U,U,U,V [26,27,28,29,30,31],V [],U,V []] 36 [3,3,3,3,3,3,3,3,3,3,3,3,3,3,3,3,3,3,3,3,3,3,3,3,3,3,3,3,3,3,3,3,3,3,3,3,2] mixed we we ?_);refine zS c1' ?_;(refine qcX ?_;refine zW ?_;refine qaw [] (qcM 1) zU ?_);rintro W rfl nx' hnx;exact endX_of [(0, .arr 45 0 [wRow N ls T ff x (.ref 1 0 0 0) [] [] link f]),(1, .arr 10 0 (ir eOu []))] zAe zAe zAe zAe zAe
  have c1':(f.epoch==x.t.epoch)=true:=beq_iff_eq.2 c1;by_cases c2:x.told=f.epoch
  .have c2':(x.told != f.epoch)=false:=by simp[c2]
   refine zAx func188 2 λhs=>?_;(refine walk_trim [0] trivial zL ?_;refine zW ?_;refine qcW [U,U,U,U,U,U,U,U,U,U,U,U,U,U,U,U,U,U,U,U,U,U,U,U,U,U,U,U,U,U,U,U,U,V [26,27,28,29,30,31],V [],U,V []] 36 [3,3,3,3,3,3,3,3,3,3,3,3,3,3,3,3,3,3,3,3,3,3,3,3,3,3,3,3,3,3,3,3,3,3,3,3,2] mixed we we ?_);refine zS (zQ c1' c2') ?_;(refine qcX ?_;refine zW ?_;refine qaw [] (qcM 1) zU ?_);rintro W rfl nx' hnx;exact endX_of [(0, .arr 45 0 [wRow N ls T ff x (.ref 1 0 0 0) [] [] link f]),(1, .arr 10 0 (ir eOu []))] zAe zAe zAe zAe zAe
  have c2':(x.told != f.epoch)=true:=by simp[c2]
  have c3:decide (qaE ls link∈x.t.kids)=false:=by
   rcases c with q | q | q
   .exact absurd c1 q
   .exact absurd q c2
   .exact decide_eq_false q
  rw[c3] at hC;refine zAx func188 2 λhs=>?_;(refine walk_trim [0] trivial zL ?_;refine zW ?_;refine qcW [U,U,U,U,U,U,U,U,U,U,U,U,U,U,U,U,U,U,U,U,U,U,U,U,U,U,U,U,U,U,U,U,U,V [26,27,28,29,30,31],V [],U,V []] 36 [3,3,3,3,3,3,3,3,3,3,3,3,3,3,3,3,3,3,3,3,3,3,3,3,3,3,3,3,3,3,3,3,3,3,3,3,2] mixed we we ?_);refine zS (zQ c1' c2') ?_;refine zK [0,1] hB ?_;refine zX hC ?_;(refine qcX ?_;refine zW ?_;refine qaw [] (qcM 1) zU ?_);rintro W rfl nx' hnx;exact endX_of [(0, .arr 45 0 [wRow N ls T ff x (.ref 1 0 0 0) [] [] link f]),(1, .arr 10 0 (ir eOu []))] zAe zAe zAe zAe zAe
 have c1:f.epoch=x.t.epoch:=Classical.byContradiction λq=>c (.inl q)
 have c1':(f.epoch==x.t.epoch)=true:=beq_iff_eq.2 c1;have c2: ¬x.told=f.epoch:=λq=>c (.inr (.inl q))
 have c2':(x.told != f.epoch)=true:=by simp[c2]
 have c3:decide (qaE ls link∈x.t.kids)=true:=decide_eq_true (Classical.byContradiction λq=>c (.inr (.inr q)));rw[c3] at hC;by_cases cm:(mrg x.got f.ps).2=0
 rotate_left
 .have z:reportedN ls ff x link f=errT (mrg x.got f.ps).2:=by unfold reportedN;rw[if_neg c,if_pos cm]
  rw[z,wOc,if_neg (show ¬(errT (mrg x.got f.ps).2).e=0 from cm)];refine⟨⟨x, [], [], [],0⟩,?_⟩;show PX _ _ _ _ _ _;generalize mrg x.got f.ps=r at *;refine zAy func188 2 λhs=>?_;(refine zM [0] ?_;refine zI [U,U,U,U,U,U,U,U,U,U,U,U,U,U,U,U,U,U,U,U,U,U,U,U,U,U,U,U,U,U,U,U,U,V [26,27,28,29,30,31],V [],U,V []] ?_);refine zS (zQ c1' c2') ?_;refine zK [0,1] hB ?_;refine zX hC ?_;refine zX (qau 1) ?_;refine zN [0] [U,U,U,U,U,U,U,U,U,U,V [],U,U,U,U,U] ?_;refine zX hM ?_;(refine at_x ?_;refine zW ?_;refine qaw [] (qg3 _ cm) zU ?_);rintro W rfl;refine zP ?_;exact endX_of [(0, .arr 45 0 [wRow N ls T ff x (.ref 1 0 0 0) [] [] link f]),(1, .arr 10 0 (ir eOu []))] zAe zAe zAe zAe zAe
 have z:reportedN ls ff x link f=qaz ls ff ⟨⟨x.h,x.m,x.u,x.t,(mrg x.got f.ps).1,x.heard+1,x.told,x.seen⟩, [], [], [],0⟩:=by
  unfold reportedN;rw[if_neg c,if_neg (λq=>q cm)]
 have q1: ∀p∈(mrg x.got f.ps).1,qaA p:=by
  rcases mrg_cases x.got f.ps with ⟨q,_⟩ | ⟨_,q1,q2⟩
  .rw[q] at cm;exact absurd cm wh
  .exact λp hp'=>by
    rcases List.mem_append.1 (q1.mem_iff.1 hp') with z | z
    .exact h.got p z
    .exact hp p z
 have q2:(mrg x.got f.ps).1.length<=18:=by
  rcases mrg_cases x.got f.ps with ⟨q,_⟩ | ⟨_,q1,q2⟩
  .rw[q] at cm;exact absurd cm wh
  .have:=q1.length_eq;rw[List.length_append] at this;omega
 have hT:=qbQ N ls T ff ⟨⟨x.h,x.m,x.u,x.t,(mrg x.got f.ps).1,x.heard+1,x.told,x.seen⟩, [], [], [],0⟩ link f wb hl rfl (λp hp'=>(PcB.of (q1 p hp')).g wa) (by cases ff<;>exact ho) q2;rw[<-z] at hT;refine⟨⟨⟨x.h,x.m,x.u,x.t,(mrg x.got f.ps).1,x.heard+1,x.told,x.seen⟩, [], [], [],0⟩,?_⟩;clear z q1 q2;simp only[List.length_nil] at hT;generalize mrg x.got f.ps=r at *;obtain⟨all,e⟩:=r;simp only at cm hM hT;subst cm;generalize reportedN ls ff x link f=r at *;by_cases he:r.e=0
 .have hT2:=qcl hT he;rw[wOc,if_pos he];show PG _ _ _ _ _ _ _;refine zAh func188 2 λhs=>?_;(refine zM [0] ?_;refine zI [U,U,U,U,U,U,U,U,U,U,U,U,U,U,U,U,U,U,U,U,U,U,U,U,U,U,U,U,U,U,U,U,U,V [26,27,28,29,30,31],V [],U,V []] ?_);refine zS (zQ c1' c2') ?_;refine zK [0,1] hB ?_;refine zX hC ?_;refine zX (qau 1) ?_;refine zN [0] [U,U,U,U,U,U,U,U,U,U,V [],U,U,U,U,U] ?_;refine zX hM ?_;refine zY qb0 ?_;(refine at_g 200 ?_;refine zW ?_;refine callG_of [0,1] (hT2) zU ?_;exact zT)
 .have hT2:=qck hT he;rw[wOc,if_neg he];show PX _ _ _ _ _ _;refine zAy func188 2 λhs=>?_;(refine zM [0] ?_;refine zI [U,U,U,U,U,U,U,U,U,U,U,U,U,U,U,U,U,U,U,U,U,U,U,U,U,U,U,U,U,U,U,U,U,V [26,27,28,29,30,31],V [],U,V []] ?_);refine zS (zQ c1' c2') ?_;refine zK [0,1] hB ?_;refine zX hC ?_;refine zX (qau 1) ?_;refine zN [0] [U,U,U,U,U,U,U,U,U,U,V [],U,U,U,U,U] ?_;refine zX hM ?_;refine zY qb0 ?_;(refine at_x ?_;refine zW ?_;refine qaw [0,1] (hT2) zU ?_);rintro W rfl;refine zP ?_;exact endX_of [(0, .arr 45 0 [wRow N ls T ff ⟨x.h,x.m,x.u,x.t,all,x.heard+1,x.told,x.seen⟩ (.ref 1 0 0 0) [] [] link f]),(1, .arr 10 0 (ir eOu []))] zAe zAe zAe zAe zAe
end Go.Proofs.NO
