/- Facts that the proofs of this claim lean on. -/
import Derived.Test.YtfhhdgkhajkapaaGreatNNq
import Derived.Test.YtfhhdgkhajkapaaGreatNPJ
import Derived.Test.YtfhhdgkhajkapaaGreatNNi
import Derived.Test.YtfhhdgkhajkapaaGreatIdLi
import Derived.Test.YtfhhdgkhajkapaaGreatNTypes
import Derived.Test.YtfhhdgkhajkapaaGreatGN
import Derived.Test.YtfhhdgkhajkapaaGreatIdRn
import Derived.Test.YtfhhdgkhajkapaaGreatNtA
import Derived.Test.YtfhhdgkhajkapaaGreatNGb
import Derived.Test.YtfhhdgkhajkapaaGreatNzCl
set_option linter.unusedSimpArgs false
set_option linter.unusedVariables false
/- A call that is done to its end. -/
namespace Go.Proofs.NO
open Go Go.Idl Go.Proofs Go.GP Go.Proofs.Tryz
set_option maxHeartbeats 20000000
set_option maxRecDepth 100000
theorem tzvN:tzv prog 320=some (.agg ⟨[.int .i64 0]⟩):=by kernel_rfl
abbrev dhFn:FuncId:=109
abbrev dsFn:FuncId:=110
abbrev lTd0 (d:Td) (o:IV):IV:= .tup [lNo d.x,o, .agg [lPs d.ps,lI d.path],sci .i64 d.e]
theorem dh_ok (N:Int) (ls:List (Int × Int)) (T:List Nd) (ff:Bool) (x:No) (link:Int) (f:Fm) (d:Td) (he:d.e=0) (hX:PG prog dhFn [.ptr 0 0 0 0] [.arr 45 0 [wRow N ls T ff x (.ref 1 0 0 0) [] [] link f], .arr 10 0 (ir eOu [])] 0 (.tup []) [(0, .arr 45 0 [wRow N ls T ff d.x (.ref 1 d.out.length 0 d.out.length) d.ps d.path link f]),(1, .arr 10 d.out.length (ir eOu d.out))]):
  PG prog 108 [.ptr 0 0 0 0, .p (.sc (.func (.func 109) #[] #[]))] [.arr 45 0 [wRow N ls T ff x (.ref 1 0 0 0) [] [] link f], .arr 10 0 (ir eOu [])] 0 (lTd0 d (.ref 1 d.out.length 0 d.out.length)) [(0, .arr 45 0 [wRow N ls T ff d.x (.ref 1 d.out.length 0 d.out.length) d.ps d.path link f]),(1, .arr 10 d.out.length (ir eOu d.out))]:=by
 obtain⟨dx,dout,dps,dpath,de⟩:=d
 simp only at he hX
 subst he
 refine pg_d 200 (fn:=f108) func108 rfl (by simp [ntmps108]) 2 rfl zC zC zC zC zC fun hs=>?_
 try refine zW ?_
 refine qdR 200 (x:=⟨.func 181, [.ptr 2 0 0 0, .ptr 3 0 0 0, .ptr 4 0 0 0, .ptr 5 0 0 0], []⟩) rfl rfl rfl ?_
 try refine zW ?_
 (refine at_g 200 ?_;refine zW ?_;refine callG_of [0,1] (hX) zU ?_;try refine zW ?_)
 (refine zM [0,4,5,6,7,50,84,86,93] ?_;refine zI [none,none,none,none,none,none,none,none,none,none,none,none,some [4,5,6,7,8,9,10,11],some [8,9,10,11],some [],some []] ?_)
 try refine zO ?_
 refine leaves_rec 200 rfl func181 rfl (by simp [ntmps181]) rfl ?_
 (try simp (maxSteps:=2000000) only [go_sem,simprocAttr,tzvN])
 refine qcw (by simp) [] ?_
 ((try refine zO ?_);(try with_reducible exact True.intro))
theorem dh_no (N:Int) (ls:List (Int × Int)) (T:List Nd) (ff:Bool) (x:No) (link:Int) (f:Fm) (d:Td) (e:Int) (hX:PX prog dhFn [.ptr 0 0 0 0] [.arr 45 0 [wRow N ls T ff x (.ref 1 0 0 0) [] [] link f], .arr 10 0 (ir eOu [])] (nch e) (Wq N ls T ff link f d)):
  PG prog 108 [.ptr 0 0 0 0, .p (.sc (.func (.func 109) #[] #[]))] [.arr 45 0 [wRow N ls T ff x (.ref 1 0 0 0) [] [] link f], .arr 10 0 (ir eOu [])] 0 (lTd0 (errT e) (lOus [])) [(0, .arr 45 0 [wRow N ls T ff d.x (.ref 1 d.out.length 0 d.out.length) d.ps d.path link f]),(1, .arr 10 d.out.length (ir eOu d.out))]:=by
 obtain⟨dx,dout,dps,dpath,de⟩:=d
 unfold Wq at hX
 simp only at hX
 refine pg_d 200 (fn:=f108) func108 rfl (by simp [ntmps108]) 2 rfl zC zC zC zC zC fun hs=>?_
 try refine zW ?_
 refine qdR 200 (x:=⟨.func 181, [.ptr 2 0 0 0, .ptr 3 0 0 0, .ptr 4 0 0 0, .ptr 5 0 0 0], []⟩) rfl rfl rfl ?_
 try refine zW ?_
 (refine at_x ?_;refine zW ?_;refine qax [0,1] (hX) zU ?_)
 rintro W rfl
 try refine zO ?_
 unfold nch
 refine leaves_rec 200 rfl func181 rfl (by simp [ntmps181]) rfl ?_
 (try simp (maxSteps:=2000000) only [go_sem,simprocAttr,tzvN])
 refine zI [none,none,none,none,some [1,2,3],some [1,2,3],some [2,3],some []] ?_
 (try simp (maxSteps:=2000000) only [go_sem,simprocAttr,tzvN])
 refine qcw (by simp) [] ?_
 (try simp (maxSteps:=2000000) (disch:=omega) only [go_sem,simprocAttr,zD,zE,errT,zNo,zHs,zMk,zHu,zTr,zPc])
theorem dh_ok6 (N:Int) (ls:List (Int × Int)) (T:List Nd) (ff:Bool) (x:No) (link:Int) (f:Fm) (d:Td) (he:d.e=0) (hX:PG prog dhFn [.ptr 0 0 0 0] [.arr 45 0 [wRow N ls T ff x (.ref 1 0 0 0) [] [] link f], .arr 10 0 (ir eOu [])] 0 (.tup []) [(0, .arr 45 0 [wRow N ls T ff d.x (lOus d.out) d.ps d.path link f])]):
  PG prog 108 [.ptr 0 0 0 0, .p (.sc (.func (.func 109) #[] #[]))] [.arr 45 0 [wRow N ls T ff x (.ref 1 0 0 0) [] [] link f], .arr 10 0 (ir eOu [])] 0 (lTd0 d (lOus d.out)) [(0, .arr 45 0 [wRow N ls T ff d.x (lOus d.out) d.ps d.path link f])]:=by
 obtain⟨dx,dout,dps,dpath,de⟩:=d
 simp only at he hX
 subst he
 refine pg_d 200 (fn:=f108) func108 rfl (by simp [ntmps108]) 2 rfl zC zC zC zC zC fun hs=>?_
 try refine zW ?_
 refine qdR 200 (x:=⟨.func 181, [.ptr 2 0 0 0, .ptr 3 0 0 0, .ptr 4 0 0 0, .ptr 5 0 0 0], []⟩) rfl rfl rfl ?_
 try refine zW ?_
 (refine at_g 200 ?_;refine zW ?_;refine callG_of [0,1] (hX) zU ?_;try refine zW ?_)
 (refine zM [0,4,5,6,7,50,84,86,93] ?_;refine zI [none,none,none,none,none,none,none,none,none,none,none,none,some [4,5,6,7,8,9,10,11],some [8,9,10,11],some [],some []] ?_)
 try refine zO ?_
 refine leaves_rec 200 rfl func181 rfl (by simp [ntmps181]) rfl ?_
 (try simp (maxSteps:=2000000) only [go_sem,simprocAttr,tzvN])
 refine qcw (by simp) [] ?_
 ((try refine zO ?_);(try with_reducible exact True.intro))
theorem ds_ok (N:Int) (ls:List (Int × Int)) (T:List Nd) (ff:Bool) (x:No) (link:Int) (f:Fm) (d:Td) (he:d.e=0) (hX:PG prog dsFn [.ptr 0 0 0 0] [.arr 45 0 [wRow N ls T ff x (.ref 1 0 0 0) [] [] link f], .arr 10 0 (ir eOu [])] 0 (.tup []) [(0, .arr 45 0 [wRow N ls T ff d.x (.ref 1 d.out.length 0 d.out.length) d.ps d.path link f]),(1, .arr 10 d.out.length (ir eOu d.out))]):
  PG prog 108 [.ptr 0 0 0 0, .p (.sc (.func (.func 110) #[] #[]))] [.arr 45 0 [wRow N ls T ff x (.ref 1 0 0 0) [] [] link f], .arr 10 0 (ir eOu [])] 0 (lTd0 d (.ref 1 d.out.length 0 d.out.length)) [(0, .arr 45 0 [wRow N ls T ff d.x (.ref 1 d.out.length 0 d.out.length) d.ps d.path link f]),(1, .arr 10 d.out.length (ir eOu d.out))]:=by
 obtain⟨dx,dout,dps,dpath,de⟩:=d
 simp only at he hX
 subst he
 refine pg_d 200 (fn:=f108) func108 rfl (by simp [ntmps108]) 2 rfl zC zC zC zC zC fun hs=>?_
 try refine zW ?_
 refine qdR 200 (x:=⟨.func 181, [.ptr 2 0 0 0, .ptr 3 0 0 0, .ptr 4 0 0 0, .ptr 5 0 0 0], []⟩) rfl rfl rfl ?_
 try refine zW ?_
 (refine at_g 200 ?_;refine zW ?_;refine callG_of [0,1] (hX) zU ?_;try refine zW ?_)
 (refine zM [0,4,5,6,7,50,84,86,93] ?_;refine zI [none,none,none,none,none,none,none,none,none,none,none,none,some [4,5,6,7,8,9,10,11],some [8,9,10,11],some [],some []] ?_)
 try refine zO ?_
 refine leaves_rec 200 rfl func181 rfl (by simp [ntmps181]) rfl ?_
 (try simp (maxSteps:=2000000) only [go_sem,simprocAttr,tzvN])
 refine qcw (by simp) [] ?_
 ((try refine zO ?_);(try with_reducible exact True.intro))
theorem ds_no (N:Int) (ls:List (Int × Int)) (T:List Nd) (ff:Bool) (x:No) (link:Int) (f:Fm) (d:Td) (e:Int) (hX:PX prog dsFn [.ptr 0 0 0 0] [.arr 45 0 [wRow N ls T ff x (.ref 1 0 0 0) [] [] link f], .arr 10 0 (ir eOu [])] (nch e) (Wq N ls T ff link f d)):
  PG prog 108 [.ptr 0 0 0 0, .p (.sc (.func (.func 110) #[] #[]))] [.arr 45 0 [wRow N ls T ff x (.ref 1 0 0 0) [] [] link f], .arr 10 0 (ir eOu [])] 0 (lTd0 (errT e) (lOus [])) [(0, .arr 45 0 [wRow N ls T ff d.x (.ref 1 d.out.length 0 d.out.length) d.ps d.path link f]),(1, .arr 10 d.out.length (ir eOu d.out))]:=by
 obtain⟨dx,dout,dps,dpath,de⟩:=d
 unfold Wq at hX
 simp only at hX
 refine pg_d 200 (fn:=f108) func108 rfl (by simp [ntmps108]) 2 rfl zC zC zC zC zC fun hs=>?_
 try refine zW ?_
 refine qdR 200 (x:=⟨.func 181, [.ptr 2 0 0 0, .ptr 3 0 0 0, .ptr 4 0 0 0, .ptr 5 0 0 0], []⟩) rfl rfl rfl ?_
 try refine zW ?_
 (refine at_x ?_;refine zW ?_;refine qax [0,1] (hX) zU ?_)
 rintro W rfl
 try refine zO ?_
 unfold nch
 refine leaves_rec 200 rfl func181 rfl (by simp [ntmps181]) rfl ?_
 (try simp (maxSteps:=2000000) only [go_sem,simprocAttr,tzvN])
 refine zI [none,none,none,none,some [1,2,3],some [1,2,3],some [2,3],some []] ?_
 (try simp (maxSteps:=2000000) only [go_sem,simprocAttr,tzvN])
 refine qcw (by simp) [] ?_
 (try simp (maxSteps:=2000000) (disch:=omega) only [go_sem,simprocAttr,zD,zE,errT,zNo,zHs,zMk,zHu,zTr,zPc])
theorem tell_err {ls:List (Int × Int)} {ff:Bool} {t:Td} (h0:t.e=0) (h:(qaw ls ff t).e≠0):qaw ls ff t=errT (qaw ls ff t).e:=by
 unfold qaw at h ⊢
 split
 ·rename_i c
  rw [if_pos c] at h
  split
  ·rfl
  ·rename_i c2
   rw [if_neg c2] at h
   split
   ·rename_i c3;rw [if_pos c3] at h;exact absurd rfl h
   ·rename_i c3;rw [if_neg c3] at h;exact absurd rfl h
 ·rename_i c
  rw [if_neg c] at h
  exact absurd h0 h
theorem hear_err {ls:List (Int × Int)} {ff:Bool} {st:St} {x:No} {link:Int} {f:Fm} (h:(hearN ls ff st x link f).e≠0):hearN ls ff st x link f=errT (hearN ls ff st x link f).e:=by
 unfold hearN at h ⊢
 split
 ·rfl
 rename_i c0
 rw [if_neg c0] at h
 split
 ·rename_i c;rw [if_pos c] at h
  unfold appN at h ⊢
  split
  ·rfl
  ·rename_i c2;rw [if_neg c2] at h;exact absurd rfl h
 rename_i c1
 rw [if_neg c1] at h
 split
 ·rename_i c;rw [if_pos c] at h
  unfold floodedN at h ⊢
  split
  ·rfl
  rename_i c2;rw [if_neg c2] at h
  split
  ·rfl
  rename_i c3;rw [if_neg c3] at h
  split
  ·rename_i c4;rw [if_pos c4] at h;exact tell_err rfl h
  ·rename_i c4;rw [if_neg c4] at h;exact tell_err rfl h
 rename_i c2
 rw [if_neg c2] at h
 split
 ·rename_i c;rw [if_pos c] at h
  unfold repliedN at h ⊢
  split
  ·rfl
  ·rename_i c3;rw [if_neg c3] at h;exact tell_err rfl h
 rename_i c3
 rw [if_neg c3] at h
 split
 ·rename_i c;rw [if_pos c] at h
  unfold reportedN at h ⊢
  split
  ·rfl
  rename_i c4;rw [if_neg c4] at h
  split
  ·rfl
  ·rename_i c5;rw [if_neg c5] at h;exact tell_err rfl h
 rename_i c4
 rw [if_neg c4] at h
 exact absurd rfl h
theorem start_err {ls:List (Int × Int)} {ff:Bool} {x:No} {e:Int} (h:(startN ls ff x e).e≠0):startN ls ff x e=errT (startN ls ff x e).e:=by
 unfold startN at h ⊢
 split
 ·rfl
 ·rename_i c;rw [if_neg c] at h;exact tell_err rfl h
theorem hOc_no {N:Int} {ls:List (Int × Int)} {T:List Nd} {ff:Bool} {link:Int} {f:Fm} {d:Td} (h:d.e≠0):hOc N ls T ff link f d= .pan:=by
 unfold hOc wOc
 simp [h]
abbrev lTd (d:Td):IV:= .tup [lNo d.x,lOus d.out, .agg [lPs d.ps,lI d.path],sci .i64 d.e]
theorem qfq (N:Int) (ls:List (Int × Int)) (T:List Nd) (ff:Bool) (x:No) (link:Int) (f:Fm) (t:Int) (h:NOk N ls T t x) (ht:0≤t) (hb:t≤1000) (hl:ls.length≤1000000) (hT:qdP T)
  (hw:(stOf T x.h).waits.length≤1000) (hg: ∀p∈f.ps,gPc p):
  Pure prog 36 [lAp N ls T ff,lNo x,sci .i64 link,lFm f] (lTd (hearN ls ff (stOf T x.h) x link f)):=by
 obtain⟨pd,hX⟩:=qpy N ls T ff x link f t h ht hb hl hT hw hg
 have hE:= @hear_err ls ff (stOf T x.h) x link f
 generalize hearN ls ff (stOf T x.h) x link f=d at *
 by_cases he:d.e=0
 rotate_left
 ·have hD:=dh_no N ls T ff x link f pd d.e (by rw [hOc_no he] at hX;exact hX)
  have e2:d=errT d.e:=hE he
  generalize hde:d.e=e at *
  subst e2
  clear hX hE he hde
  refine pcall0 200 (fn:=f36) func36 rfl (by simp [ntmps36]) zB zB fun hs=>?_
  try simp (maxSteps:=2000000) only [go_sem,simprocAttr]
  refine walk_ownB 5 0 32 10 trivial rfl rfl rfl (.inr rfl) ?_
  try simp (maxSteps:=2000000) only [go_sem,simprocAttr]
  refine qbN 200 [] ⟨23, [(8, .ptr 3 0 0 0),(9,nil0),(10, .ptr 4 0 0 0),(11,sci .i64 0),(12, .ptr 5 0 0 0)], [],7, [(6, .arr 10 0 (ir eOu [])),(5, .arr 45 0 [wRow N ls T ff x (.ref 6 0 0 0) [] [] link f]),(4, .arr 2 0 [[nil0,nil0]]),(3, .arr 28 0 [[sci .i64 0,sci .i64 0,sci .i64 0,nil0,nil0,sci .i64 0,nil0,sci .i64 0,sci .i64 0,sci .i64 0,nil0,nil0,nil0,sci .i64 0,sci .i64 0,sci .i64 0,sci .i64 0,nil0,nil0,nil0,sci .i64 0,sci .i64 0,sci .i64 0,nil0,nil0,sci .i64 0,sci .i64 0,nil0]])]⟩ trivial ?_ ?_
  ·constructor<;>(try simp (maxSteps:=2000000) (disch:=omega) only [go_sem,simprocAttr,zD,zE])
  try simp (maxSteps:=2000000) only [go_sem,simprocAttr]
  (refine at_g 200 ?_;simp (maxSteps:=2000000) only [go_sem,simprocAttr];refine callG_of [5,6] (hD) zU ?_;try simp (maxSteps:=2000000) only [go_sem,simprocAttr])
  (try simp (maxSteps:=2000000) (disch:=omega) only [go_sem,simprocAttr,zD,zE,errT])
 by_cases k6:f.kind=6
 ·have hD:=dh_ok6 N ls T ff x link f d he (by rw [hOc_6 k6 he] at hX;exact hX)
  clear hX hE
  refine pcall0 200 (fn:=f36) func36 rfl (by simp [ntmps36]) zB zB fun hs=>?_
  try simp (maxSteps:=2000000) only [go_sem,simprocAttr]
  refine walk_ownB 5 0 32 10 trivial rfl rfl rfl (.inr rfl) ?_
  try simp (maxSteps:=2000000) only [go_sem,simprocAttr]
  refine qbN 200 [] ⟨23, [(8, .ptr 3 0 0 0),(9,nil0),(10, .ptr 4 0 0 0),(11,sci .i64 0),(12, .ptr 5 0 0 0)], [],7, [(6, .arr 10 0 (ir eOu [])),(5, .arr 45 0 [wRow N ls T ff x (.ref 6 0 0 0) [] [] link f]),(4, .arr 2 0 [[nil0,nil0]]),(3, .arr 28 0 [[sci .i64 0,sci .i64 0,sci .i64 0,nil0,nil0,sci .i64 0,nil0,sci .i64 0,sci .i64 0,sci .i64 0,nil0,nil0,nil0,sci .i64 0,sci .i64 0,sci .i64 0,sci .i64 0,nil0,nil0,nil0,sci .i64 0,sci .i64 0,sci .i64 0,nil0,nil0,sci .i64 0,sci .i64 0,nil0]])]⟩ trivial ?_ ?_
  ·constructor<;>(try simp (maxSteps:=2000000) (disch:=omega) only [go_sem,simprocAttr,zD,zE])
  try simp (maxSteps:=2000000) only [go_sem,simprocAttr]
  (refine at_g 200 ?_;simp (maxSteps:=2000000) only [go_sem,simprocAttr];refine callG_of [5,6] (hD) zU ?_;try simp (maxSteps:=2000000) only [go_sem,simprocAttr])
  (try simp (maxSteps:=2000000) (disch:=omega) only [go_sem,simprocAttr,zD,zE])
 ·have hD:=dh_ok N ls T ff x link f d he (by rw [qe0 k6,wOc,if_pos he] at hX;exact hX)
  clear hX hE
  have ht2:d.out.take d.out.length=d.out:=List.take_length
  refine pcall0 200 (fn:=f36) func36 rfl (by simp [ntmps36]) zB zB fun hs=>?_
  try simp (maxSteps:=2000000) only [go_sem,simprocAttr]
  refine walk_ownB 5 0 32 10 trivial rfl rfl rfl (.inr rfl) ?_
  try simp (maxSteps:=2000000) only [go_sem,simprocAttr]
  refine qbN 200 [] ⟨23, [(8, .ptr 3 0 0 0),(9,nil0),(10, .ptr 4 0 0 0),(11,sci .i64 0),(12, .ptr 5 0 0 0)], [],7, [(6, .arr 10 0 (ir eOu [])),(5, .arr 45 0 [wRow N ls T ff x (.ref 6 0 0 0) [] [] link f]),(4, .arr 2 0 [[nil0,nil0]]),(3, .arr 28 0 [[sci .i64 0,sci .i64 0,sci .i64 0,nil0,nil0,sci .i64 0,nil0,sci .i64 0,sci .i64 0,sci .i64 0,nil0,nil0,nil0,sci .i64 0,sci .i64 0,sci .i64 0,sci .i64 0,nil0,nil0,nil0,sci .i64 0,sci .i64 0,sci .i64 0,nil0,nil0,sci .i64 0,sci .i64 0,nil0]])]⟩ trivial ?_ ?_
  ·constructor<;>(try simp (maxSteps:=2000000) (disch:=omega) only [go_sem,simprocAttr,zD,zE])
  try simp (maxSteps:=2000000) only [go_sem,simprocAttr]
  (refine at_g 200 ?_;simp (maxSteps:=2000000) only [go_sem,simprocAttr];refine callG_of [5,6] (hD) zU ?_;try simp (maxSteps:=2000000) only [go_sem,simprocAttr])
  (try simp (maxSteps:=2000000) (disch:=omega) only [go_sem,simprocAttr,zD,zE,ht2])
theorem qei (N:Int) (ls:List (Int × Int)) (T:List Nd) (ff:Bool) (x:No) (e0:Int) (t:Int) (h:NOk N ls T t x) (ht:0≤t) (hb:t≤1000) (hl:ls.length≤1000000):
  Pure prog 37 [lAp N ls T ff,lNo x,sci .i64 e0] (lTd (startN ls ff x e0)):=by
 obtain⟨pd,hX⟩:=qoZ N ls T ff x 0 ⟨0,e0,(0,0), [],0,0,0, []⟩ t h ht hb hl
 have hE:= @start_err ls ff x e0
 simp only at hX
 generalize startN ls ff x e0=d at *
 by_cases he:d.e=0
 ·have hD:=ds_ok N ls T ff x 0 ⟨0,e0,(0,0), [],0,0,0, []⟩ d he (by rw [wOc,if_pos he] at hX;exact hX)
  clear hX hE
  have ht2:d.out.take d.out.length=d.out:=List.take_length
  refine pcall0 200 (fn:=f37) func37 rfl (by simp [ntmps37]) zB zB fun hs=>?_
  try simp (maxSteps:=2000000) only [go_sem,simprocAttr]
  refine walk_ownB 4 0 32 10 trivial rfl rfl rfl (.inr rfl) ?_
  try simp (maxSteps:=2000000) only [go_sem,simprocAttr]
  refine qbN 200 [] ⟨21, [(6, .ptr 2 0 0 0),(7,nil0),(8, .ptr 3 0 0 0),(9,sci .i64 0),(10, .ptr 4 0 0 0)], [],6, [(5, .arr 10 0 (ir eOu [])),(4, .arr 45 0 [wRow N ls T ff x (.ref 5 0 0 0) [] [] 0 ⟨0,e0,(0,0), [],0,0,0, []⟩]),(3, .arr 2 0 [[nil0,nil0]]),(2, .arr 28 0 [[sci .i64 0,sci .i64 0,sci .i64 0,nil0,nil0,sci .i64 0,nil0,sci .i64 0,sci .i64 0,sci .i64 0,nil0,nil0,nil0,sci .i64 0,sci .i64 0,sci .i64 0,sci .i64 0,nil0,nil0,nil0,sci .i64 0,sci .i64 0,sci .i64 0,nil0,nil0,sci .i64 0,sci .i64 0,nil0]])]⟩ trivial ?_ ?_
  ·constructor<;>(try simp (maxSteps:=2000000) (disch:=omega) only [go_sem,simprocAttr,zD,zE])
  try simp (maxSteps:=2000000) only [go_sem,simprocAttr]
  (refine at_g 200 ?_;simp (maxSteps:=2000000) only [go_sem,simprocAttr];refine callG_of [4,5] (hD) zU ?_;try simp (maxSteps:=2000000) only [go_sem,simprocAttr])
  (try simp (maxSteps:=2000000) (disch:=omega) only [go_sem,simprocAttr,zD,zE,ht2])
 ·have hD:=ds_no N ls T ff x 0 ⟨0,e0,(0,0), [],0,0,0, []⟩ pd d.e (by rw [wOc,if_neg he] at hX;exact hX)
  have e2:d=errT d.e:=hE he
  generalize hde:d.e=e at *
  subst e2
  clear hX hE he hde
  refine pcall0 200 (fn:=f37) func37 rfl (by simp [ntmps37]) zB zB fun hs=>?_
  try simp (maxSteps:=2000000) only [go_sem,simprocAttr]
  refine walk_ownB 4 0 32 10 trivial rfl rfl rfl (.inr rfl) ?_
  try simp (maxSteps:=2000000) only [go_sem,simprocAttr]
  refine qbN 200 [] ⟨21, [(6, .ptr 2 0 0 0),(7,nil0),(8, .ptr 3 0 0 0),(9,sci .i64 0),(10, .ptr 4 0 0 0)], [],6, [(5, .arr 10 0 (ir eOu [])),(4, .arr 45 0 [wRow N ls T ff x (.ref 5 0 0 0) [] [] 0 ⟨0,e0,(0,0), [],0,0,0, []⟩]),(3, .arr 2 0 [[nil0,nil0]]),(2, .arr 28 0 [[sci .i64 0,sci .i64 0,sci .i64 0,nil0,nil0,sci .i64 0,nil0,sci .i64 0,sci .i64 0,sci .i64 0,nil0,nil0,nil0,sci .i64 0,sci .i64 0,sci .i64 0,sci .i64 0,nil0,nil0,nil0,sci .i64 0,sci .i64 0,sci .i64 0,nil0,nil0,sci .i64 0,sci .i64 0,nil0]])]⟩ trivial ?_ ?_
  ·constructor<;>(try simp (maxSteps:=2000000) (disch:=omega) only [go_sem,simprocAttr,zD,zE])
  try simp (maxSteps:=2000000) only [go_sem,simprocAttr]
  (refine at_g 200 ?_;simp (maxSteps:=2000000) only [go_sem,simprocAttr];refine callG_of [4,5] (hD) zU ?_;try simp (maxSteps:=2000000) only [go_sem,simprocAttr])
  (try simp (maxSteps:=2000000) (disch:=omega) only [go_sem,simprocAttr,zD,zE,errT])
end Go.Proofs.NO
/- The first host of a node may be: no node of a graph has more than five links either way. Plain law. -/
namespace Go.Proofs.NO
open Go Go.Idl Go.Proofs Go.GP Go.Proofs.Tryz
theorem qiU {N:Int} {ls:List (Int × Int)} {T:List Nd} {m:Nat} {x:Nd} (h:TabP N ls T) (hx:T[m]? =some x):qdy N ls T ⟨m,x.start,0,List.replicate (ins m 0 ls).length [],List.replicate (outs m 0 ls).length []⟩:=by
 have hm:=(List.getElem?_eq_some_iff.1 hx).1
 have hT:=h.2.1
 have hN:0≤(m:Int)∧(m:Int) < N:=by omega
 have hs:=(h.2.2 m x hx).2.2.1
 refine⟨h,hN.1,hN.2,hs.1,fun y hy=>?_,by simp,by simp,Int.le_refl _,by simp only;omega,by simp only [List.length_replicate];exact qqE h.1 hN,by simp only [List.length_replicate];exact qpS h.1 hN,fun j l hj hl=>?_,fun j l hj hl=>?_⟩
 ·rw [Int.toNat_natCast,hx] at hy
  cases hy
  exact hs.2
 ·rw [(List.mem_replicate.1 (List.mem_of_getElem? hl)).2];trivial
 ·rw [(List.mem_replicate.1 (List.mem_of_getElem? hl)).2]
  exact⟨by simp,fun j x hj=>by simp at hj⟩
end Go.Proofs.NO
/- A node's first one; frames cut. -/
namespace Go.Proofs.NO
open Go Go.Idl Go.Proofs Go.GP Go.Proofs.Tryz
set_option maxHeartbeats 20000000
set_option maxRecDepth 100000
theorem qfT (N:Int) (ls:List (Int × Int)) (T:List Nd) (ff:Bool) (n:Int) (m:Nat) (x:Nd) (hl:ls.length≤1000000) (hm:(m:Int)=if n < 0∨N≤n then 0 else n) (hx:T[m]? =some x):
  Pure prog 34 [lAp N ls T ff,sci .i64 n] (lNo (newN ⟨m,x.start,0,List.replicate (ins m 0 ls).length [],List.replicate (outs m 0 ls).length []⟩)):=by
 have h:=qpu N ls T ff 0 [] n m x hl hm hx
 generalize List.replicate (ins m 0 ls).length []=A at *
 generalize List.replicate (outs m 0 ls).length []=B at *
 refine pcall0 200 (fn:=f34) func34 rfl (by simp [ntmps34]) zB zB fun hs=>?_
 try refine zW ?_
 (refine zG ?_;refine callA_of (h) zB ?_;try refine zW ?_)
 (try simp (disch:=omega) only [go_sem,simprocAttr,zD,zE,newN,zMk,zHu,zTr,zPc])
def cutF (f:Fm):Fm:=⟨f.kind,f.epoch,f.m,(f.ps.take 7).map qeU,f.init,f.num,f.count,f.path.take 8⟩
theorem mn8 (n:Nat):(if(8:Int) < (n:Int) then(8:Int) else(n:Int))=((min n 8:Nat):Int):=by split<;>omega
theorem qeN (f:Fm):Pure prog 35 [lFm f] (lFm (cutF f)):=by
 obtain⟨f1,f2,⟨f3,f4⟩,f5,f6,f7,f8,f9⟩:=f
 obtain⟨Z,hZ⟩: ∃Z,Z=(f5.take 7).map qeU:=⟨_,rfl⟩
 have hZl:Z.length=min f5.length 7:=by rw [hZ,List.length_map,List.length_take];omega
 have hZs: ∀(i:Nat) (li:i < f5.length),i < 7→Z.take (i+1)=Z.take i++ [qeU f5[i]]:=fun i li l7=>by
  rw [hZ,List.take_succ_eq_append_getElem (by rw [List.length_map,List.length_take];omega),List.getElem_map,List.getElem_take]
 unfold cutF
 simp only
 rw [←hZ]
 clear hZ
 refine pcall0 200 (fn:=f35) func35 rfl (by simp [ntmps35]) zB zB fun hs=>?_
 try refine zW ?_
 (refine zM [1,2,88] ?_;refine zI [none,none,none,none,none,none,none,none,none,none,none,none,some [0,1,2,3,4,5,6,7,8,9,10,11,13,14,15,16,17,18,19,22],none,none,none,none,none,none,none,some [0,1,2,3,4,5,6,7,8,9,10,11,22],none,some [0,1,2,3,4,5,6,7,8,9,10,11,12,13,14,15,16,17,18,19,20,21],some []] ?_)
 (try simp (maxSteps:=2000000) (disch:=omega) only [go_sem,simprocAttr,zD,zE,mn8,Nat.sub_zero,List.drop_zero,tk_min,tk_len])
 refine walk_ownB 3 0 4 6 trivial rfl rfl rfl (.inr rfl) ?_
 simp only [List.set_cons_zero,List.set_cons_succ,Nat.reduceAdd]
 (refine walk_trim [1,2,3,4,88] trivial zL ?_;((try refine zW ?_);(try with_reducible exact True.intro)))
 refine qac 200 200 (fun i:Nat=>i≤Z.length)
  (fun i=>⟨50, [(1, .ptr 0 0 0 0),(2, .ptr 1 0 0 0),(3, .ptr 3 0 0 0),(4,sci .i64 i)], [],5, [(4, .arr 6 i (ir ePc (Z.take i))),(3, .arr 9 0 [[sci .i64 f1,sci .i64 f2,sci .i64 f3,sci .i64 f4, .ref 4 i 0 i,sci .i64 f6,sci .i64 f7,sci .i64 f8,lI (f9.take 8)]]),(1, .arr 9 0 [[sci .i64 0,sci .i64 0,sci .i64 0,sci .i64 0,nil0,sci .i64 0,sci .i64 0,sci .i64 0,nil0]]),(0, .arr 9 0 [[sci .i64 f1,sci .i64 f2,sci .i64 f3,sci .i64 f4,lPs f5,sci .i64 f6,sci .i64 f7,sci .i64 f8,lI f9]])]⟩) (fun i=>Z.length - i) (0) [2] ?_ ?_ ?_
 ·simp
 ·constructor<;>(try simp (maxSteps:=2000000) (disch:=omega) only [go_sem,simprocAttr,zD,zE,Int.natCast_zero,List.take_of_length_le,List.append_assoc,List.take_zero,tk_self])
 ·rintro i hi
  try refine zW ?_
  by_cases li:i < Z.length
  ·have l5:i < f5.length:=by omega
   have l7:i < 7:=by omega
   have hsn:=hZs i l5 l7
   have hmn:min i Z.length=i:=by omega
   have hti:(Z.take i).take i=Z.take i:=by rw [List.take_take,Nat.min_self]
   generalize hp:f5[i]=p at *
   try refine zO ?_
   (refine zM [1,2,3,4,88] ?_;refine zI [none,none,none,none,none,none,none,some [0,1],some [0,1],some [],none,some []] ?_)
   (try simp (maxSteps:=2000000) (disch:=omega) only [go_sem,simprocAttr,zD,zE,ePc,hp])
   (refine zF ?_;refine callA_of (qn3 p) zB ?_;try refine zW ?_)
   (try simp (maxSteps:=2000000) (disch:=omega) only [go_sem,simprocAttr,zD,zE,hmn,hti])
   refine⟨i+1, [],li,by omega,?_⟩
   constructor
   case blks=>
    (try simp (maxSteps:=2000000) (disch:=omega) only [go_sem,simprocAttr,zD,zE,hmn,hti,hsn,ir_snoc,ePc])
   all_goals(try simp (maxSteps:=2000000) (disch:=omega) only [go_sem,simprocAttr,zD,zE,hmn,hti])
  ·obtain rfl:i=Z.length:=by omega
   rw [List.take_of_length_le (Nat.le_refl Z.length)]
   have hz:Z.take Z.length=Z:=List.take_length
   rcases Nat.lt_or_ge Z.length f5.length with q | q
   ·(try simp (maxSteps:=2000000) (disch:=omega) only [go_sem,simprocAttr,zD,zE,hz])
   ·(try simp (maxSteps:=2000000) (disch:=omega) only [go_sem,simprocAttr,zD,zE,hz])
end Go.Proofs.NO
/- The fixed calls of layer 18. -/
namespace Go.Proofs.NO
open Go Go.Idl Go.Proofs Go.Proofs.Tryz
set_option maxHeartbeats 20000000
set_option maxRecDepth 100000
theorem qbQ:Pure prog 33 [] (scb true):=ycallY 100000 (fun _=>false) (fun _=>false) (by kernel_rfl)
end Go.Proofs.NO
/- A call of a law of the node. -/
namespace Go.Proofs.NO
open Go Go.Idl Go.Proofs Go.GP Go.Proofs.Tryz
set_option maxHeartbeats 20000000
set_option maxRecDepth 100000
structure Op where
 kind:Int
 n:Int
 link:Int
 f:Fm
def eOpN (o:Op):List PV:= [.sc (.int .i64 o.kind), .sc (.int .i64 o.n), .sc (.int .i64 o.link), .sc (.int .i64 o.f.kind), .sc (.int .i64 o.f.epoch), .sc (.int .i64 o.f.m.1), .sc (.int .i64 o.f.m.2), .imm 6 (pr ePc o.f.ps), .sc (.int .i64 o.f.init), .sc (.int .i64 o.f.num), .sc (.int .i64 o.f.count), .imm 1 (pr eI o.f.path)]
abbrev lOps (l:List Op):IV:= .p (.imm 12 (pr eOpN l))
theorem qiM (f:Fm): ∀p∈(cutF f).ps,gPc p:=fun p hp=>by
 obtain⟨q, -,rfl⟩:=List.mem_map.1 hp
 exact qrI q
end Go.Proofs.NO
/- How a list of a node's operations reads. -/
namespace Go.Proofs.YtfhhdgkhajkapaaGreat
open Go Go.Idl Go.Proofs Go.Proofs.Tryz
open Go.ChangeShapes Go.WideShapes Go.ChangeAt Go.RowKit
set_option maxRecDepth 100000
theorem qpM:qak prog 67 eII fun _=>True:=
 qak.map (qa7 (fs:= [_,_]) Tryz.underlying67 (by kernel_rfl) (qao rfl rfl qaY (qbl rfl rfl qaY))) id (fun _=>rfl) fun _ _=>trivial
theorem qrW:qak prog 63 (fun l:List (Int × Int)=> [.imm 2 (pr eII l)]) fun _=>True:=
 qak.map (qa8 (by_:=16) Tryz.underlying63 (by kernel_rfl) (by decide) (by kernel_rfl) qpM) id (fun _=>rfl) fun _ _=>trivial
theorem op_ins:qak prog 38 (fun l:List (List (Int × Int))=> [.imm 1 (pr NO.eMs l)]) fun _=>True:=
 qak.map (qa8 (by_:=24) Tryz.underlying38 (by kernel_rfl) (by decide) (by kernel_rfl) qrW) id (fun _=>rfl) fun _ _=>trivial
theorem qrY:qak prog 43 (fun l:List (List Int)=> [.imm 1 (pr NO.eLs l)]) fun _=>True:=
 qak.map (qa8 (by_:=24) Tryz.underlying43 (by kernel_rfl) (by decide) (by kernel_rfl) qgq) id (fun _=>rfl) fun _ _=>trivial
theorem qqX:qak prog 75 NO.ePc fun _=>True:=
 qak.map (qa7 (fs:= [_,_,_,_,_,_]) Tryz.underlying75 (by kernel_rfl) (qao rfl rfl qaY (qao rfl rfl qaY (qao rfl rfl qaY (qao rfl rfl qgq (qao rfl rfl op_ins (qbl rfl rfl qrY)))))))
  (fun a=>(⟨a.1,a.2.1,a.2.2.1,a.2.2.2.1,a.2.2.2.2.1,a.2.2.2.2.2⟩:NO.Pc)) (fun _=>rfl) fun _ _=>trivial
theorem qpN:qak prog 82 (fun l:List NO.Pc=> [.imm 6 (pr NO.ePc l)]) fun _=>True:=
 qak.map (qa8 (by_:=96) Tryz.underlying82 (by kernel_rfl) (by decide) (by kernel_rfl) qqX) id (fun _=>rfl) fun _ _=>trivial
theorem qqS:qak prog 88 NO.eFm fun _=>True:=
 qak.map (qa7 (fs:= [_,_,_,_,_,_,_,_]) Tryz.underlying88 (by kernel_rfl) (qao rfl rfl qaY (qao rfl rfl qaY (qao rfl rfl qpM (qao rfl rfl qpN (qao rfl rfl qaY (qao rfl rfl qaY (qao rfl rfl qaY (qbl rfl rfl qgq)))))))))
  (fun a=>(⟨a.1,a.2.1,a.2.2.1,a.2.2.2.1,a.2.2.2.2.1,a.2.2.2.2.2.1,a.2.2.2.2.2.2.1,a.2.2.2.2.2.2.2⟩:NO.Fm)) (fun _=>rfl) fun _ _=>trivial
theorem op_op:qak prog 91 NO.eOpN fun _=>True:=
 qak.map (qa7 (fs:= [_,_,_,_]) Tryz.underlying91 (by kernel_rfl) (qao rfl rfl qaY (qao rfl rfl qaY (qao rfl rfl qaY (qbl rfl rfl qqS)))))
  (fun a=>(⟨a.1,a.2.1,a.2.2.1,a.2.2.2⟩:NO.Op)) (fun _=>rfl) fun _ _=>trivial
theorem qlC:qak prog 72 (fun l:List NO.Op=> [.imm 12 (pr NO.eOpN l)]) fun _=>True:=
 qak.map (qa8 (by_:=128) Tryz.underlying72 (by kernel_rfl) (by decide) (by kernel_rfl) op_op) id (fun _=>rfl) fun _ _=>trivial
end Go.Proofs.YtfhhdgkhajkapaaGreat
