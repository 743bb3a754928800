/- Facts leant on. -/
import Derived.Test.YtfhhdgkhajkapaaGreatNNq
import Derived.Test.YtfhhdgkhajkapaaGreatNPS
import Derived.Test.YtfhhdgkhajkapaaGreatNNi
set_option linter.all false
open True renaming intro->Ka
open List renaming take_length->Kb,replicate->Kc,mem_of_getElem?->Kd
open Option renaming none->U,some->V
/- A call that is done to its end. -/
namespace Go.Proofs.NO
open Go Go.Idl Go.Proofs Go.GP Go.Proofs.Tryz
set_option maxHeartbeats 0
set_option maxRecDepth 100000
def tzvN:tzv prog 320=V (.agg ⟨[.int .i64 0]⟩):=we
abbrev dhFn:FuncId:=109
abbrev dsFn:FuncId:=110
abbrev lTd0(d:Td)(o:IV):IV:= .tup [lNo d.x,o, .agg [lPs d.ps,lI d.path],sci .i64 d.e]
def dh_ok(N:Int)(ls:List (Int × Int))(T:List Nd)(ff:Bool)(x:No)(link:Int)(f:Fm)(d:Td)(he:d.e=0)(hX:PG prog dhFn [.ptr 0 0 0 0] [.arr 45 0 [wRow N ls T ff x (.ref 1 0 0 0) [] [] link f], .arr 10 0 (ir eOu [])] 0 (.tup []) [(0, .arr 45 0 [wRow N ls T ff d.x (.ref 1 d.out.length 0 d.out.length) d.ps d.path link f]),(1, .arr 10 d.out.length (ir eOu d.out))]):
  PG prog 108 [.ptr 0 0 0 0, .p (.sc (.func (.func 109) #[] #[]))] [.arr 45 0 [wRow N ls T ff x (.ref 1 0 0 0) [] [] link f], .arr 10 0 (ir eOu [])] 0 (lTd0 d (.ref 1 d.out.length 0 d.out.length)) [(0, .arr 45 0 [wRow N ls T ff d.x (.ref 1 d.out.length 0 d.out.length) d.ps d.path link f]),(1, .arr 10 d.out.length (ir eOu d.out))]:=by
 obtain⟨dx,dout,dps,dpath,de⟩:=d;simp only at he hX;subst he;refine pg_d 200 (fn:=f108) func108 rfl (by simp[ntmps108]) 2 rfl zC zC zC zC zC λhs=>?_;(try simp(maxSteps:=2000000) only[go_sem,simprocAttr]);refine qea 200 (x:=⟨.func 181, [.ptr 2 0 0 0, .ptr 3 0 0 0, .ptr 4 0 0 0, .ptr 5 0 0 0], []⟩) rfl rfl rfl ?_;(try simp(maxSteps:=2000000) only[go_sem,simprocAttr]);(refine at_g 200 ?_;refine zW ?_;refine callG_of [0,1] (hX) zU ?_;(try simp(maxSteps:=2000000) only[go_sem,simprocAttr]));refine zN [0,4,5,6,7,50,84,86,93] [U,U,U,U,U,U,U,U,U,U,U,U,V [4,5,6,7,8,9,10,11],V [8,9,10,11],V [],V []] ?_;refine leaves_rec 200 rfl func181 rfl (by simp[ntmps181]) rfl ?_;(try simp(maxSteps:=2000000) only[go_sem,simprocAttr,tzvN]);refine qcP wb [] ?_;exact zU
def dh_no(N:Int)(ls:List (Int × Int))(T:List Nd)(ff:Bool)(x:No)(link:Int)(f:Fm)(d:Td)(e:Int)(hX:PX prog dhFn [.ptr 0 0 0 0] [.arr 45 0 [wRow N ls T ff x (.ref 1 0 0 0) [] [] link f], .arr 10 0 (ir eOu [])] (nch e) (Wq N ls T ff link f d)):
  PG prog 108 [.ptr 0 0 0 0, .p (.sc (.func (.func 109) #[] #[]))] [.arr 45 0 [wRow N ls T ff x (.ref 1 0 0 0) [] [] link f], .arr 10 0 (ir eOu [])] 0 (lTd0 (errT e) (lOus [])) [(0, .arr 45 0 [wRow N ls T ff d.x (.ref 1 d.out.length 0 d.out.length) d.ps d.path link f]),(1, .arr 10 d.out.length (ir eOu d.out))]:=by
 obtain⟨dx,dout,dps,dpath,de⟩:=d;unfold Wq at hX;simp only at hX;refine pg_d 200 (fn:=f108) func108 rfl (by simp[ntmps108]) 2 rfl zC zC zC zC zC λhs=>?_;(try simp(maxSteps:=2000000) only[go_sem,simprocAttr]);refine qea 200 (x:=⟨.func 181, [.ptr 2 0 0 0, .ptr 3 0 0 0, .ptr 4 0 0 0, .ptr 5 0 0 0], []⟩) rfl rfl rfl ?_;(try simp(maxSteps:=2000000) only[go_sem,simprocAttr]);(refine at_x ?_;refine zW ?_;refine qaw [0,1] (hX) zU ?_);rintro W rfl;(try simp(maxSteps:=2000000) (disch:=omega) only[go_sem,simprocAttr,zD,zE]);unfold nch;refine leaves_rec 200 rfl func181 rfl (by simp[ntmps181]) rfl ?_;(try simp(maxSteps:=2000000) only[go_sem,simprocAttr,tzvN]);refine zI [U,U,U,U,V [1,2,3],V [1,2,3],V [2,3],V []] ?_;(try simp(maxSteps:=2000000) only[go_sem,simprocAttr,tzvN]);refine qcP wb [] ?_;(try simp(maxSteps:=2000000) (disch:=omega) only[go_sem,simprocAttr,zD,zE,errT,zNo,zHs,zMk,zHu,zTr,zPc])
def dh_ok6(N:Int)(ls:List (Int × Int))(T:List Nd)(ff:Bool)(x:No)(link:Int)(f:Fm)(d:Td)(he:d.e=0)(hX:PG prog dhFn [.ptr 0 0 0 0] [.arr 45 0 [wRow N ls T ff x (.ref 1 0 0 0) [] [] link f], .arr 10 0 (ir eOu [])] 0 (.tup []) [(0, .arr 45 0 [wRow N ls T ff d.x (lOus d.out) d.ps d.path link f])]):
  PG prog 108 [.ptr 0 0 0 0, .p (.sc (.func (.func 109) #[] #[]))] [.arr 45 0 [wRow N ls T ff x (.ref 1 0 0 0) [] [] link f], .arr 10 0 (ir eOu [])] 0 (lTd0 d (lOus d.out)) [(0, .arr 45 0 [wRow N ls T ff d.x (lOus d.out) d.ps d.path link f])]:=by
 obtain⟨dx,dout,dps,dpath,de⟩:=d;simp only at he hX;subst he;refine pg_d 200 (fn:=f108) func108 rfl (by simp[ntmps108]) 2 rfl zC zC zC zC zC λhs=>?_;(try simp(maxSteps:=2000000) only[go_sem,simprocAttr]);refine qea 200 (x:=⟨.func 181, [.ptr 2 0 0 0, .ptr 3 0 0 0, .ptr 4 0 0 0, .ptr 5 0 0 0], []⟩) rfl rfl rfl ?_;(try simp(maxSteps:=2000000) only[go_sem,simprocAttr]);(refine at_g 200 ?_;refine zW ?_;refine callG_of [0,1] (hX) zU ?_;(try simp(maxSteps:=2000000) only[go_sem,simprocAttr]));refine zN [0,4,5,6,7,50,84,86,93] [U,U,U,U,U,U,U,U,U,U,U,U,V [4,5,6,7,8,9,10,11],V [8,9,10,11],V [],V []] ?_;refine leaves_rec 200 rfl func181 rfl (by simp[ntmps181]) rfl ?_;(try simp(maxSteps:=2000000) only[go_sem,simprocAttr,tzvN]);refine qcP wb [] ?_;exact zU
def ds_ok(N:Int)(ls:List (Int × Int))(T:List Nd)(ff:Bool)(x:No)(link:Int)(f:Fm)(d:Td)(he:d.e=0)(hX:PG prog dsFn [.ptr 0 0 0 0] [.arr 45 0 [wRow N ls T ff x (.ref 1 0 0 0) [] [] link f], .arr 10 0 (ir eOu [])] 0 (.tup []) [(0, .arr 45 0 [wRow N ls T ff d.x (.ref 1 d.out.length 0 d.out.length) d.ps d.path link f]),(1, .arr 10 d.out.length (ir eOu d.out))]):
  PG prog 108 [.ptr 0 0 0 0, .p (.sc (.func (.func 110) #[] #[]))] [.arr 45 0 [wRow N ls T ff x (.ref 1 0 0 0) [] [] link f], .arr 10 0 (ir eOu [])] 0 (lTd0 d (.ref 1 d.out.length 0 d.out.length)) [(0, .arr 45 0 [wRow N ls T ff d.x (.ref 1 d.out.length 0 d.out.length) d.ps d.path link f]),(1, .arr 10 d.out.length (ir eOu d.out))]:=by
 obtain⟨dx,dout,dps,dpath,de⟩:=d;simp only at he hX;subst he;refine pg_d 200 (fn:=f108) func108 rfl (by simp[ntmps108]) 2 rfl zC zC zC zC zC λhs=>?_;(try simp(maxSteps:=2000000) only[go_sem,simprocAttr]);refine qea 200 (x:=⟨.func 181, [.ptr 2 0 0 0, .ptr 3 0 0 0, .ptr 4 0 0 0, .ptr 5 0 0 0], []⟩) rfl rfl rfl ?_;(try simp(maxSteps:=2000000) only[go_sem,simprocAttr]);(refine at_g 200 ?_;refine zW ?_;refine callG_of [0,1] (hX) zU ?_;(try simp(maxSteps:=2000000) only[go_sem,simprocAttr]));refine zN [0,4,5,6,7,50,84,86,93] [U,U,U,U,U,U,U,U,U,U,U,U,V [4,5,6,7,8,9,10,11],V [8,9,10,11],V [],V []] ?_;refine leaves_rec 200 rfl func181 rfl (by simp[ntmps181]) rfl ?_;(try simp(maxSteps:=2000000) only[go_sem,simprocAttr,tzvN]);refine qcP wb [] ?_;exact zU
def ds_no(N:Int)(ls:List (Int × Int))(T:List Nd)(ff:Bool)(x:No)(link:Int)(f:Fm)(d:Td)(e:Int)(hX:PX prog dsFn [.ptr 0 0 0 0] [.arr 45 0 [wRow N ls T ff x (.ref 1 0 0 0) [] [] link f], .arr 10 0 (ir eOu [])] (nch e) (Wq N ls T ff link f d)):
  PG prog 108 [.ptr 0 0 0 0, .p (.sc (.func (.func 110) #[] #[]))] [.arr 45 0 [wRow N ls T ff x (.ref 1 0 0 0) [] [] link f], .arr 10 0 (ir eOu [])] 0 (lTd0 (errT e) (lOus [])) [(0, .arr 45 0 [wRow N ls T ff d.x (.ref 1 d.out.length 0 d.out.length) d.ps d.path link f]),(1, .arr 10 d.out.length (ir eOu d.out))]:=by
 obtain⟨dx,dout,dps,dpath,de⟩:=d;unfold Wq at hX;simp only at hX;refine pg_d 200 (fn:=f108) func108 rfl (by simp[ntmps108]) 2 rfl zC zC zC zC zC λhs=>?_;(try simp(maxSteps:=2000000) only[go_sem,simprocAttr]);refine qea 200 (x:=⟨.func 181, [.ptr 2 0 0 0, .ptr 3 0 0 0, .ptr 4 0 0 0, .ptr 5 0 0 0], []⟩) rfl rfl rfl ?_;(try simp(maxSteps:=2000000) only[go_sem,simprocAttr]);(refine at_x ?_;refine zW ?_;refine qaw [0,1] (hX) zU ?_);rintro W rfl;(try simp(maxSteps:=2000000) (disch:=omega) only[go_sem,simprocAttr,zD,zE]);unfold nch;refine leaves_rec 200 rfl func181 rfl (by simp[ntmps181]) rfl ?_;(try simp(maxSteps:=2000000) only[go_sem,simprocAttr,tzvN]);refine zI [U,U,U,U,V [1,2,3],V [1,2,3],V [2,3],V []] ?_;(try simp(maxSteps:=2000000) only[go_sem,simprocAttr,tzvN]);refine qcP wb [] ?_;(try simp(maxSteps:=2000000) (disch:=omega) only[go_sem,simprocAttr,zD,zE,errT,zNo,zHs,zMk,zHu,zTr,zPc])
def tell_err{ls:List (Int × Int)}{ff:Bool}{t:Td}(h0:t.e=0)(h:(qaz ls ff t).e≠0):qaz ls ff t=errT (qaz ls ff t).e:=by
 unfold qaz at h ⊢;split
 .rename_i c;rw[if_pos c] at h;split
  .rfl
  .rename_i c2;rw[if_neg c2] at h;split
   .rename_i c3;rw[if_pos c3] at h;exact absurd rfl h
   .rename_i c3;rw[if_neg c3] at h;exact absurd rfl h
 .rename_i c;rw[if_neg c] at h;exact absurd h0 h
def hear_err{ls:List (Int × Int)}{ff:Bool}{st:St}{x:No}{link:Int}{f:Fm}(h:(hearN ls ff st x link f).e≠0):hearN ls ff st x link f=errT (hearN ls ff st x link f).e:=by
 unfold hearN at h ⊢;split
 .rfl
 rename_i c0;rw[if_neg c0] at h;split
 .rename_i c;rw[if_pos c] at h;unfold appN at h ⊢;split
  .rfl
  .rename_i c2;rw[if_neg c2] at h;exact absurd rfl h
 rename_i c1;rw[if_neg c1] at h;split
 .rename_i c;rw[if_pos c] at h;unfold floodedN at h ⊢;split
  .rfl
  rename_i c2;rw[if_neg c2] at h;split
  .rfl
  rename_i c3;rw[if_neg c3] at h;split
  .rename_i c4;rw[if_pos c4] at h;exact tell_err rfl h
  .rename_i c4;rw[if_neg c4] at h;exact tell_err rfl h
 rename_i c2;rw[if_neg c2] at h;split
 .rename_i c;rw[if_pos c] at h;unfold repliedN at h ⊢;split
  .rfl
  .rename_i c3;rw[if_neg c3] at h;exact tell_err rfl h
 rename_i c3;rw[if_neg c3] at h;split
 .rename_i c;rw[if_pos c] at h;unfold reportedN at h ⊢;split
  .rfl
  rename_i c4;rw[if_neg c4] at h;split
  .rfl
  .rename_i c5;rw[if_neg c5] at h;exact tell_err rfl h
 rename_i c4;rw[if_neg c4] at h;exact absurd rfl h
def start_err{ls:List (Int × Int)}{ff:Bool}{x:No}{e:Int}(h:(startN ls ff x e).e≠0):startN ls ff x e=errT (startN ls ff x e).e:=by
 unfold startN at h ⊢;split
 .rfl
 .rename_i c;rw[if_neg c] at h;exact tell_err rfl h
def hOc_no{N:Int}{ls:List (Int × Int)}{T:List Nd}{ff:Bool}{link:Int}{f:Fm}{d:Td}(h:d.e≠0):hOc N ls T ff link f d= .pan:=by
 unfold hOc wOc;simp[h]
abbrev lTd(d:Td):IV:= .tup [lNo d.x,lOus d.out, .agg [lPs d.ps,lI d.path],sci .i64 d.e]
def qo5(N:Int)(ls:List (Int × Int))(T:List Nd)(ff:Bool)(x:No)(link:Int)(f:Fm)(t:Int)(h:NOk N ls T t x)(ht:0<=t)(hb:t<=1000)(hl:ls.length<=1000000)(hT:qd9 T)
  (hw:(stOf T x.h).waits.length<=1000) (hg: ∀p∈f.ps,gPc p):
  Pure prog 36 [lAp N ls T ff,lNo x,sci .i64 link,lFm f] (lTd (hearN ls ff (stOf T x.h) x link f)):=by
 obtain⟨pd,hX⟩:=qpC N ls T ff x link f t h ht hb hl hT hw hg;have hE:= @hear_err ls ff (stOf T x.h) x link f;generalize hearN ls ff (stOf T x.h) x link f=d at *;by_cases he:d.e=0
 rotate_left
 .have hD:=dh_no N ls T ff x link f pd d.e (by rw[hOc_no he] at hX;exact hX);have e2:d=errT d.e:=hE he;generalize hde:d.e=e at *;subst e2;clear hX hE he hde;refine zAb func36 λhs=>?_;refine walk_ownB 5 0 32 10 trivial rfl rfl rfl (.inr rfl) ?_;(try simp(maxSteps:=2000000) only[go_sem,simprocAttr]);refine qbf 200 [] ⟨23, [(8, .ptr 3 0 0 0),(9,nil0),(10, .ptr 4 0 0 0),(11,sci .i64 0),(12, .ptr 5 0 0 0)], [],7, [(6, .arr 10 0 (ir eOu [])),(5, .arr 45 0 [wRow N ls T ff x (.ref 6 0 0 0) [] [] link f]),(4, .arr 2 0 [[nil0,nil0]]),(3, .arr 28 0 [[sci .i64 0,sci .i64 0,sci .i64 0,nil0,nil0,sci .i64 0,nil0,sci .i64 0,sci .i64 0,sci .i64 0,nil0,nil0,nil0,sci .i64 0,sci .i64 0,sci .i64 0,sci .i64 0,nil0,nil0,nil0,sci .i64 0,sci .i64 0,sci .i64 0,nil0,nil0,sci .i64 0,sci .i64 0,nil0]])]⟩ trivial ?_ ?_
  .constructor<;>exact zU
  (try simp(maxSteps:=2000000) only[go_sem,simprocAttr]);(refine at_g 200 ?_;refine zW ?_;refine callG_of [5,6] (hD) zU ?_);(try simp(maxSteps:=2000000) (disch:=omega) only[go_sem,simprocAttr,zD,zE,errT])
 by_cases k6:f.kind=6
 .have hD:=dh_ok6 N ls T ff x link f d he (by rw[hOc_6 k6 he] at hX;exact hX);clear hX hE;refine zAb func36 λhs=>?_;refine walk_ownB 5 0 32 10 trivial rfl rfl rfl (.inr rfl) ?_;(try simp(maxSteps:=2000000) only[go_sem,simprocAttr]);refine qbf 200 [] ⟨23, [(8, .ptr 3 0 0 0),(9,nil0),(10, .ptr 4 0 0 0),(11,sci .i64 0),(12, .ptr 5 0 0 0)], [],7, [(6, .arr 10 0 (ir eOu [])),(5, .arr 45 0 [wRow N ls T ff x (.ref 6 0 0 0) [] [] link f]),(4, .arr 2 0 [[nil0,nil0]]),(3, .arr 28 0 [[sci .i64 0,sci .i64 0,sci .i64 0,nil0,nil0,sci .i64 0,nil0,sci .i64 0,sci .i64 0,sci .i64 0,nil0,nil0,nil0,sci .i64 0,sci .i64 0,sci .i64 0,sci .i64 0,nil0,nil0,nil0,sci .i64 0,sci .i64 0,sci .i64 0,nil0,nil0,sci .i64 0,sci .i64 0,nil0]])]⟩ trivial ?_ ?_
  .constructor<;>exact zU
  (try simp(maxSteps:=2000000) only[go_sem,simprocAttr]);(refine at_g 200 ?_;refine zW ?_;refine callG_of [5,6] (hD) zU ?_);exact zU
 .have hD:=dh_ok N ls T ff x link f d he (by rw[qfq k6,wOc,if_pos he] at hX;exact hX);clear hX hE;have ht2:d.out.take d.out.length=d.out:=Kb;refine zAb func36 λhs=>?_;refine walk_ownB 5 0 32 10 trivial rfl rfl rfl (.inr rfl) ?_;(try simp(maxSteps:=2000000) only[go_sem,simprocAttr]);refine qbf 200 [] ⟨23, [(8, .ptr 3 0 0 0),(9,nil0),(10, .ptr 4 0 0 0),(11,sci .i64 0),(12, .ptr 5 0 0 0)], [],7, [(6, .arr 10 0 (ir eOu [])),(5, .arr 45 0 [wRow N ls T ff x (.ref 6 0 0 0) [] [] link f]),(4, .arr 2 0 [[nil0,nil0]]),(3, .arr 28 0 [[sci .i64 0,sci .i64 0,sci .i64 0,nil0,nil0,sci .i64 0,nil0,sci .i64 0,sci .i64 0,sci .i64 0,nil0,nil0,nil0,sci .i64 0,sci .i64 0,sci .i64 0,sci .i64 0,nil0,nil0,nil0,sci .i64 0,sci .i64 0,sci .i64 0,nil0,nil0,sci .i64 0,sci .i64 0,nil0]])]⟩ trivial ?_ ?_
  .constructor<;>exact zU
  (try simp(maxSteps:=2000000) only[go_sem,simprocAttr]);(refine at_g 200 ?_;refine zW ?_;refine callG_of [5,6] (hD) zU ?_);exact zy ht2
def qmJ(N:Int)(ls:List (Int × Int))(T:List Nd)(ff:Bool)(x:No)(e0:Int)(t:Int)(h:NOk N ls T t x)(ht:0<=t)(hb:t<=1000)(hl:ls.length<=1000000):
  Pure prog 37 [lAp N ls T ff,lNo x,sci .i64 e0] (lTd (startN ls ff x e0)):=by
 obtain⟨pd,hX⟩:=qoV N ls T ff x 0 ⟨0,e0,(0,0), [],0,0,0, []⟩ t h ht hb hl;have hE:= @start_err ls ff x e0;simp only at hX;generalize startN ls ff x e0=d at *;by_cases he:d.e=0
 .have hD:=ds_ok N ls T ff x 0 ⟨0,e0,(0,0), [],0,0,0, []⟩ d he (by rw[wOc,if_pos he] at hX;exact hX);clear hX hE;have ht2:d.out.take d.out.length=d.out:=Kb;refine zAb func37 λhs=>?_;refine walk_ownB 4 0 32 10 trivial rfl rfl rfl (.inr rfl) ?_;(try simp(maxSteps:=2000000) only[go_sem,simprocAttr]);refine qbf 200 [] ⟨21, [(6, .ptr 2 0 0 0),(7,nil0),(8, .ptr 3 0 0 0),(9,sci .i64 0),(10, .ptr 4 0 0 0)], [],6, [(5, .arr 10 0 (ir eOu [])),(4, .arr 45 0 [wRow N ls T ff x (.ref 5 0 0 0) [] [] 0 ⟨0,e0,(0,0), [],0,0,0, []⟩]),(3, .arr 2 0 [[nil0,nil0]]),(2, .arr 28 0 [[sci .i64 0,sci .i64 0,sci .i64 0,nil0,nil0,sci .i64 0,nil0,sci .i64 0,sci .i64 0,sci .i64 0,nil0,nil0,nil0,sci .i64 0,sci .i64 0,sci .i64 0,sci .i64 0,nil0,nil0,nil0,sci .i64 0,sci .i64 0,sci .i64 0,nil0,nil0,sci .i64 0,sci .i64 0,nil0]])]⟩ trivial ?_ ?_
  .constructor<;>exact zU
  (try simp(maxSteps:=2000000) only[go_sem,simprocAttr]);(refine at_g 200 ?_;refine zW ?_;refine callG_of [4,5] (hD) zU ?_);exact zy ht2
 .have hD:=ds_no N ls T ff x 0 ⟨0,e0,(0,0), [],0,0,0, []⟩ pd d.e (by rw[wOc,if_neg he] at hX;exact hX);have e2:d=errT d.e:=hE he;generalize hde:d.e=e at *;subst e2;clear hX hE he hde;refine zAb func37 λhs=>?_;refine walk_ownB 4 0 32 10 trivial rfl rfl rfl (.inr rfl) ?_;(try simp(maxSteps:=2000000) only[go_sem,simprocAttr]);refine qbf 200 [] ⟨21, [(6, .ptr 2 0 0 0),(7,nil0),(8, .ptr 3 0 0 0),(9,sci .i64 0),(10, .ptr 4 0 0 0)], [],6, [(5, .arr 10 0 (ir eOu [])),(4, .arr 45 0 [wRow N ls T ff x (.ref 5 0 0 0) [] [] 0 ⟨0,e0,(0,0), [],0,0,0, []⟩]),(3, .arr 2 0 [[nil0,nil0]]),(2, .arr 28 0 [[sci .i64 0,sci .i64 0,sci .i64 0,nil0,nil0,sci .i64 0,nil0,sci .i64 0,sci .i64 0,sci .i64 0,nil0,nil0,nil0,sci .i64 0,sci .i64 0,sci .i64 0,sci .i64 0,nil0,nil0,nil0,sci .i64 0,sci .i64 0,sci .i64 0,nil0,nil0,sci .i64 0,sci .i64 0,nil0]])]⟩ trivial ?_ ?_
  .constructor<;>exact zU
  (try simp(maxSteps:=2000000) only[go_sem,simprocAttr]);(refine at_g 200 ?_;refine zW ?_;refine callG_of [4,5] (hD) zU ?_);(try simp(maxSteps:=2000000) (disch:=omega) only[go_sem,simprocAttr,zD,zE,errT])
end Go.Proofs.NO
namespace Go.Proofs.NO
open Go Go.Idl Go.Proofs Go.GP Go.Proofs.Tryz
def qsg{N ls T}{m:Nat}{x}(h:TabP N ls T)(b:T[m]? =V x):qdz N ls T ⟨m,x.start,0,Kc (ins m 0 ls).length [],Kc (outs m 0 ls).length []⟩:=by
 have g:=(List.getElem?_eq_some_iff.1 b).1;have i:=h.2.1;have a:0<=(m:Int)/\(m) < N:=wa
 have e:=(h.2.2 m x b).2.2.1;refine⟨h,a.1,a.2,e.1,λy f=>?_,wb,wb,Int.le_refl _,wb,by simp;exact qqR h.1 a,by simp;exact qp0 h.1 a,λj l c d=>?_,λj l c d=>?_⟩
 .rw[Int.toNat_natCast,b] at f;cases f;exact e.2
 .rw[(List.mem_replicate.1 (Kd d)).2];trivial
 .rw[(List.mem_replicate.1 (Kd d)).2];exact⟨wb,λj x c=>by simp⟩
end Go.Proofs.NO
