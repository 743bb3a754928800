/- What frames do to a node, one kind after the other; a snapshot that is begun. -/
import Derived.Test.YtfhhdgkhajkapaaGreatNNi
set_option linter.all false
open List renaming length_nil->Ka,length_map->Kb,nil_append->Kc
open Option renaming none->U
namespace Go.Proofs.NO
open Go Go.Idl Go.Proofs Go.GP Go.Proofs.Tryz
set_option maxHeartbeats 0
set_option maxRecDepth 100000
def qdC(N:Int)(ls:List (Int × Int))(T:List Nd)(ff:Bool)(d:Td)(link:Int)(f:Fm)(hl:ls.length<=1000000)(hn:d.out.length+(outs d.x.h.node 0 ls).length<=900)(e:Int):
  PG prog 194 [.ptr 0 0 0 0,sci .i64 e] [.arr 45 0 [wRow N ls T ff d.x (.ref 1 d.out.length 0 d.out.length) d.ps d.path link f], .arr 10 d.out.length (ir eOu d.out)] 0 (.tup [])
   [(0, .arr 45 0 [wRow N ls T ff (floodN ls ff d e).x (.ref 1 (floodN ls ff d e).out.length 0 (floodN ls ff d e).out.length) (floodN ls ff d e).ps (floodN ls ff d e).path link f]),(1, .arr 10 (floodN ls ff d e).out.length (ir eOu (floodN ls ff d e).out))]:=by
 have h:=qoi N ls T ff d.x d.out.length d.out d.ps d.path link f rfl hl hn e;simpa only[floodN,List.length_append,Kb] using h
def qbQ(N:Int)(ls:List (Int × Int))(T:List Nd)(ff:Bool)(d:Td)(link:Int)(f:Fm)(hn:d.out.length<=900)(hl:ls.length<=1000000)(he:d.e=0)
  (hg1: ∀p∈d.x.got,gPc p) (hg2:gPc (ownP ff d.x)) (h30:d.x.got.length<=18):
  PB prog 195 [.ptr 0 0 0 0] [.arr 45 0 [wRow N ls T ff d.x (.ref 1 d.out.length 0 d.out.length) d.ps d.path link f], .arr 10 d.out.length (ir eOu d.out)] (nch (qaz ls ff d).e) (Wq N ls T ff link f d) (wOc N ls T ff link f (qaz ls ff d)):=by
 obtain⟨x,o,ps,path,e⟩:=d;simp only at he;subst he;exact qqj N ls T ff x o.length o ps path link f rfl hn hl hg1 hg2 h30
def qcl{N:Int}{ls:List (Int × Int)}{T:List Nd}{ff:Bool}{link:Int}{f:Fm}{d:Td}{fn:FuncId}{args:List IV}{R:List IBlk}{ch:List PanicEntry}{Wp:List (Nat × IBlk)->Prop}(h:PB prog fn args R ch Wp (wOc N ls T ff link f d))(he:d.e=0):
  PG prog fn args R 0 (.tup []) [(0, .arr 45 0 [wRow N ls T ff d.x (.ref 1 d.out.length 0 d.out.length) d.ps d.path link f]),(1, .arr 10 d.out.length (ir eOu d.out))]:=by
 rw[wOc,if_pos he] at h;exact h
def qck{N:Int}{ls:List (Int × Int)}{T:List Nd}{ff:Bool}{link:Int}{f:Fm}{d:Td}{fn:FuncId}{args:List IV}{R:List IBlk}{ch:List PanicEntry}{Wp:List (Nat × IBlk)->Prop}(h:PB prog fn args R ch Wp (wOc N ls T ff link f d))(he:d.e≠0):
  PX prog fn args R ch Wp:=by
 rw[wOc,if_neg he] at h;exact h
def gown{N:Int}{ls:List (Int × Int)}{T:List Nd}{t:Int}{x:No}(h:NOk N ls T t x)(hb:t<=1000)(ff:Bool):gPc (ownP ff x):=by
 cases ff
 .exact h.gu.g hb
 .exact h.gm.g hb
def ggot{N:Int}{ls:List (Int × Int)}{T:List Nd}{t:Int}{x:No}(h:NOk N ls T t x): ∀p∈x.got,gPc p:=λp hp=>(PcB.of (h.got p hp)).g wa
def NOk.gH{N:Int}{ls:List (Int × Int)}{T:List Nd}{t:Int}{x:No}(h:NOk N ls T t x):gHs x.h/\x.h.inn.length<=5:=by
 obtain⟨n,j,nd,f⟩:=h.hf;exact⟨f.gHs,f.in5⟩
def qoV(N:Int)(ls:List (Int × Int))(T:List Nd)(ff:Bool)(x:No)(link:Int)(f:Fm)(t:Int)(h:NOk N ls T t x)(ht:0<=t)(hb:t<=1000)(hl:ls.length<=1000000):
  ∃pd,PB prog 110 [.ptr 0 0 0 0] [.arr 45 0 [wRow N ls T ff x (.ref 1 0 0 0) [] [] link f], .arr 10 0 (ir eOu [])] (nch (startN ls ff x f.epoch).e) (Wq N ls T ff link f pd) (wOc N ls T ff link f (startN ls ff x f.epoch)):=by
 by_cases c:f.epoch < 1\/200 < f.epoch\/f.epoch<=x.m.epoch\/f.epoch<=x.u.epoch\/f.epoch<=x.t.epoch
 .have z:startN ls ff x f.epoch=errT 1:=by unfold startN;rw[if_pos c]
  rw[z,wOc,if_neg wh];refine⟨⟨x, [], [], [],0⟩,?_⟩;show PX _ _ _ _ _ _;by_cases c1:f.epoch < 1
  .refine zAx func110 2 λhs=>?_;(refine walk_trim [0,2] trivial zL ?_;refine zW ?_;refine qcW [U,U,U,U,U,U,U,U,U,U,U,U,U,U,U,U,U,U,U,U,U,U,U,U,U,U,U,U,U,some []] 29 [3,3,3,3,3,3,3,3,3,3,3,3,3,3,3,3,3,3,3,3,3,3,3,3,3,3,3,3,3,2] mixed we we ?_);refine zS c1 ?_;(refine qcX ?_;refine zW ?_;refine qaw [] (qcM 1) zU ?_);rintro W rfl nx' hnx;exact endX_of [(0, .arr 45 0 [wRow N ls T ff x (.ref 1 0 0 0) [] [] link f]),(1, .arr 10 0 (ir eOu []))] zAe zAe zAe zAe zAe
  by_cases c2:200 < f.epoch
  .refine zAx func110 2 λhs=>?_;(refine walk_trim [0,2] trivial zL ?_;refine zW ?_;refine qcW [U,U,U,U,U,U,U,U,U,U,U,U,U,U,U,U,U,U,U,U,U,U,U,U,U,U,U,U,U,some []] 29 [3,3,3,3,3,3,3,3,3,3,3,3,3,3,3,3,3,3,3,3,3,3,3,3,3,3,3,3,3,2] mixed we we ?_);refine zS (zQ c1 c2) ?_;(refine qcX ?_;refine zW ?_;refine qaw [] (qcM 1) zU ?_);rintro W rfl nx' hnx;exact endX_of [(0, .arr 45 0 [wRow N ls T ff x (.ref 1 0 0 0) [] [] link f]),(1, .arr 10 0 (ir eOu []))] zAe zAe zAe zAe zAe
  have c3: ¬(if(if x.m.epoch < x.u.epoch then x.u.epoch else x.m.epoch) < x.t.epoch then x.t.epoch else(if x.m.epoch < x.u.epoch then x.u.epoch else x.m.epoch)) < f.epoch:=by
   rcases c with c | c | c | c | c
   .omega
   .omega
   all_goals(split<;>split<;>omega)
  refine zAx func110 2 λhs=>?_;(refine walk_trim [0,2] trivial zL ?_;refine zW ?_;refine qcW [U,U,U,U,U,U,U,U,U,U,U,U,U,U,U,U,U,U,U,U,U,U,U,U,U,U,U,U,U,some []] 29 [3,3,3,3,3,3,3,3,3,3,3,3,3,3,3,3,3,3,3,3,3,3,3,3,3,3,3,3,3,2] mixed we we ?_);refine zS (zQ c1 (zQ c2 c3)) ?_;(refine qcX ?_;refine zW ?_;refine qaw [] (qcM 1) zU ?_);rintro W rfl nx' hnx;exact endX_of [(0, .arr 45 0 [wRow N ls T ff x (.ref 1 0 0 0) [] [] link f]),(1, .arr 10 0 (ir eOu []))] zAe zAe zAe zAe zAe
 have e0:1<=f.epoch/\f.epoch<=200/\x.m.epoch < f.epoch/\x.u.epoch < f.epoch/\x.t.epoch < f.epoch:=wa
 have c3:(if(if x.m.epoch < x.u.epoch then x.u.epoch else x.m.epoch) < x.t.epoch then x.t.epoch else(if x.m.epoch < x.u.epoch then x.u.epoch else x.m.epoch)) < f.epoch:=by
  split
  .omega
  .split<;>omega
 have h5:=h.outs5;have htd:=h.td;obtain⟨gh,i5⟩:=h.gH;have hO:=qgy N ls T ff;have hP:=qn4 f.epoch (outs x.h.node 0 ls).length;rw[if_neg wa] at hP;cases ff
 .have hx:NOk N ls T t ⟨x.h,x.m,(qaW x.u x.h f.epoch).1,x.t,x.got,x.heard,x.told,x.seen⟩:=h.turn e0.2.1 ht;have hy:NOk N ls T t ⟨x.h,x.m,(qaW x.u x.h f.epoch).1,⟨f.epoch, -1,((outs x.h.node 0 ls).length:Int), []⟩,x.got,x.heard,x.told,x.seen⟩:=
   hx.tree ⟨wc,wc⟩ ⟨wc,wc⟩ wm wc
  obtain⟨d,hd⟩: ∃d:Td,d=⟨⟨x.h,x.m,(qaW x.u x.h f.epoch).1,⟨f.epoch, -1,((outs x.h.node 0 ls).length:Int), []⟩,x.got,x.heard,x.told,x.seen⟩, [], [], [],0⟩:=⟨_,rfl⟩;have hdx:NOk N ls T t d.x:=vv
  have z:startN ls false x f.epoch=qaz ls false (floodN ls false d f.epoch):=by
   unfold startN;rw[if_neg c,hd];simp only[qgB,if_neg (show ¬((outs x.h.node 0 ls).length:Int) < 0 by omega),if_true,Bool.false_eq_true,if_false]
  have hk:=hdx.flood false f.epoch;have hF:=qdC N ls T false d link f hl wI f.epoch;have hT:=qbQ N ls T false (floodN ls false d f.epoch) link f (by rw[hd];simp only[floodN,Kc,Kb];omega) hl (by rw[hd];rfl) (ggot hk) (gown hk hb _) vd;rw[<-z] at hT;refine⟨floodN ls false d f.epoch,?_⟩;have hO1:=hO ⟨x.h,x.m,(qaW x.u x.h f.epoch).1,x.t,x.got,x.heard,x.told,x.seen⟩ 0 [] [] [] link f hl;clear hO hk z;generalize floodN ls false d f.epoch=dd at *;rw[hd] at hF;simp only[Ka] at hF hO1;clear hd hdx hy hx d;generalize startN ls false x f.epoch=r at *;by_cases he:r.e=0
  .have hT2:=qcl hT he;rw[wOc,if_pos he];show PG _ _ _ _ _ _ _;refine zAh func110 2 λhs=>?_;(refine zM [0,2] ?_;refine zI [U,U,U,U,U,U,U,U,U,U,U,U,U,U,U,U,U,U,U,U,U,U,U,U,U,U,U,U,U,some []] ?_);refine zS c3 ?_;refine zX (qau 1) ?_;refine zN [0,2] [U,U,U,U,U,U,U,U,U,U,U,U,some [0],U,U,U,U,U,U,some [15]] ?_;refine zX (qdS x.u x.h f.epoch gh) ?_;refine zJ [0,1] hO1 ?_;refine zY hP ?_;refine zJ [0,1] hF ?_;(refine at_g 200 ?_;refine zW ?_;refine callG_of [0,1] (hT2) zU ?_;exact zT)
  .have hT2:=qck hT he;rw[wOc,if_neg he];show PX _ _ _ _ _ _;refine zAy func110 2 λhs=>?_;(refine zM [0,2] ?_;refine zI [U,U,U,U,U,U,U,U,U,U,U,U,U,U,U,U,U,U,U,U,U,U,U,U,U,U,U,U,U,some []] ?_);refine zS c3 ?_;refine zX (qau 1) ?_;refine zN [0,2] [U,U,U,U,U,U,U,U,U,U,U,U,some [0],U,U,U,U,U,U,some [15]] ?_;refine zX (qdS x.u x.h f.epoch gh) ?_;refine zJ [0,1] hO1 ?_;refine zY hP ?_;refine zJ [0,1] hF ?_;(refine at_x ?_;refine zW ?_;refine qaw [0,1] (hT2) zU ?_);rintro W rfl;refine zP ?_;exact endX_of [(0, .arr 45 0 [wRow N ls T false dd.x (.ref 1 dd.out.length 0 dd.out.length) dd.ps dd.path link f]),(1, .arr 10 dd.out.length (ir eOu dd.out))] zAe zAe zAe zAe zAe
 .have hx:NOk N ls T t ⟨x.h,qa8 x.h f.epoch,x.u,x.t,x.got,x.heard,x.told,x.seen⟩:=h.begin_ ⟨e0.1,e0.2.1⟩ ht;have hy:NOk N ls T t ⟨x.h,qa8 x.h f.epoch,x.u,⟨f.epoch, -1,((outs x.h.node 0 ls).length:Int), []⟩,x.got,x.heard,x.told,x.seen⟩:=
   hx.tree ⟨wc,wc⟩ ⟨wc,wc⟩ wm wc
  obtain⟨d,hd⟩: ∃d:Td,d=⟨⟨x.h,qa8 x.h f.epoch,x.u,⟨f.epoch, -1,((outs x.h.node 0 ls).length:Int), []⟩,x.got,x.heard,x.told,x.seen⟩, [], [], [],0⟩:=⟨_,rfl⟩;have hdx:NOk N ls T t d.x:=vv
  have z:startN ls true x f.epoch=qaz ls true (floodN ls true d f.epoch):=by
   unfold startN;rw[if_neg c,hd];simp only[qgB,if_neg (show ¬((outs x.h.node 0 ls).length:Int) < 0 by omega),if_true,Bool.false_eq_true,if_false]
  have hk:=hdx.flood true f.epoch;have hF:=qdC N ls T true d link f hl wI f.epoch;have hT:=qbQ N ls T true (floodN ls true d f.epoch) link f (by rw[hd];simp only[floodN,Kc,Kb];omega) hl (by rw[hd];rfl) (ggot hk) (gown hk hb _) vd;rw[<-z] at hT;refine⟨floodN ls true d f.epoch,?_⟩;have hO1:=hO ⟨x.h,qa8 x.h f.epoch,x.u,x.t,x.got,x.heard,x.told,x.seen⟩ 0 [] [] [] link f hl;clear hO hk z;generalize floodN ls true d f.epoch=dd at *;rw[hd] at hF;simp only[Ka] at hF hO1;clear hd hdx hy hx d;generalize startN ls true x f.epoch=r at *;by_cases he:r.e=0
  .have hT2:=qcl hT he;rw[wOc,if_pos he];show PG _ _ _ _ _ _ _;refine zAh func110 2 λhs=>?_;(refine zM [0,2] ?_;refine zI [U,U,U,U,U,U,U,U,U,U,U,U,U,U,U,U,U,U,U,U,U,U,U,U,U,U,U,U,U,some []] ?_);refine zS c3 ?_;refine zX (qau 1) ?_;refine zY (qe8 x.h f.epoch gh i5) ?_;refine zJ [0,1] hO1 ?_;refine zY hP ?_;refine zJ [0,1] hF ?_;(refine at_g 200 ?_;refine zW ?_;refine callG_of [0,1] (hT2) zU ?_;exact zT)
  .have hT2:=qck hT he;rw[wOc,if_neg he];show PX _ _ _ _ _ _;refine zAy func110 2 λhs=>?_;(refine zM [0,2] ?_;refine zI [U,U,U,U,U,U,U,U,U,U,U,U,U,U,U,U,U,U,U,U,U,U,U,U,U,U,U,U,U,some []] ?_);refine zS c3 ?_;refine zX (qau 1) ?_;refine zY (qe8 x.h f.epoch gh i5) ?_;refine zJ [0,1] hO1 ?_;refine zY hP ?_;refine zJ [0,1] hF ?_;(refine at_x ?_;refine zW ?_;refine qaw [0,1] (hT2) zU ?_);rintro W rfl;refine zP ?_;exact endX_of [(0, .arr 45 0 [wRow N ls T true dd.x (.ref 1 dd.out.length 0 dd.out.length) dd.ps dd.path link f]),(1, .arr 10 dd.out.length (ir eOu dd.out))] zAe zAe zAe zAe zAe
end Go.Proofs.NO
