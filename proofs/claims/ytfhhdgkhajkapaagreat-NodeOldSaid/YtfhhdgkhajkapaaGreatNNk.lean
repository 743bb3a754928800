/- What frames do to a node: a message, a flood, a reply, a report. -/
import Derived.Test.YtfhhdgkhajkapaaGreatNNj
set_option linter.unusedSimpArgs false
set_option linter.unusedVariables false
namespace Go.Proofs.NO
open Go Go.Idl Go.Proofs Go.GP Go.Proofs.Tryz
set_option maxHeartbeats 20000000
set_option maxRecDepth 100000
theorem qnh (t:Tr) (e l:Int) (y:Bool) (hw:0≤t.wait∧t.wait≤1000) (hk:t.kids.length≤1000000000):Pure prog 246 [lTr t,sci .i64 e,sci .i64 l,scb y] (.tup [lTr (replyT t e l y).1,sci .i64 (replyT t e l y).2]):=by
 have h:=qol t.epoch t.up t.wait t.kids e l y ⟨by omega,by omega⟩ hk
 unfold replyT
 by_cases c:t.epoch≠e∨t.wait < 1
 ·rw [if_pos c]
  rw [if_neg (by simp only [Bool.and_eq_true,beq_iff_eq,Bool.not_eq_true',decide_eq_false_iff_not];rintro⟨a,b⟩;exact c.elim (fun q=>q a) b)] at h
  exact h
 ·rw [if_neg c]
  rw [if_pos (by simp only [Bool.and_eq_true,beq_iff_eq,Bool.not_eq_true',decide_eq_false_iff_not];exact⟨Classical.byContradiction fun q=>c (.inl q),fun q=>c (.inr q)⟩)] at h
  cases y
  ·simpa using h
  ·simpa using h
theorem take_hf {N:Int} {ls:List (Int × Int)} {T:List Nd} {t:Int} {x:No} (h:NOk N ls T t x) (hb:t≤1000) (hT:qdP T) (hl:ls.length≤1000000) (ff:Bool) (link:Int) (m:Int × Int):
  Pure prog 29 [lAp N ls T ff,lHs x.h,sci .i64 link, .agg [sci .i64 m.1,sci .i64 m.2]] (.tup [lHs (takeH ls (stOf T x.h) x.h link m).1,sci .i64 (takeH ls (stOf T x.h) x.h link m).2]):=by
 obtain⟨n,j,nd,g⟩:=h.hf
 have hst:=h.st
 exact qpd ⟨N,ls,T,ff,0, []⟩ x.h link m n j nd (stOf T x.h) g.hn g.hj g.hx g.hq g.gHs hl (((hT.2 n nd g.hx).2 j _ g.hq).2.2) g.inl g.rows ⟨g.st0.1,by omega⟩
theorem qqh (N:Int) (ls:List (Int × Int)) (T:List Nd) (ff:Bool) (x:No) (link:Int) (f:Fm) (t:Int) (h:NOk N ls T t x) (ht:0≤t) (hb:t≤1000) (hl:ls.length≤1000000) (hT:qdP T):
  ∃pd,PB prog 185 [.ptr 0 0 0 0] [.arr 45 0 [wRow N ls T ff x (.ref 1 0 0 0) [] [] link f], .arr 10 0 (ir eOu [])] (nch (appN ls ff (stOf T x.h) x link f).e) (Wq N ls T ff link f pd) (wOc N ls T ff link f (appN ls ff (stOf T x.h) x link f)):=by
 have hTk:=take_hf h hb hT hl ff link f.m
 have hnode:= @qfi ls (stOf T x.h) x.h link f.m
 obtain⟨gh,i5⟩:=h.gH
 unfold appN
 generalize takeH ls (stOf T x.h) x.h link f.m=r at *
 obtain⟨h',e⟩:=r
 simp only at hTk hnode ⊢
 by_cases he:e=0
 rotate_left
 ·rw [if_pos he,wOc,if_neg (show ¬(errT e).e=0 from he)]
  refine⟨⟨x, [], [], [],0⟩,?_⟩
  show PX _ _ _ _ _ _
  refine px_of 200 (fn:=f185) func185 rfl (by simp [ntmps185]) 2 rfl zC zC fun hs=>?_
  try refine zW ?_
  (refine zM [0,2] ?_;refine zI [none,none,none,none,none,none,none,none,none,none,none,none,none,none,some [18],none,none,none,some [0,1,2,3,4,5,6,7,8,9,10,11,12,13,14,15,16,17],some [17],none] ?_)
  try refine zO ?_
  (refine zF ?_;refine callA_of (hTk) zB ?_)
  try refine zO ?_
  (refine at_x ?_;refine zW ?_;refine qax [] (qgo e he) zU ?_)
  rintro W rfl
  try refine zO ?_
  (refine endX_of [(0, .arr 45 0 [wRow N ls T ff x (.ref 1 0 0 0) [] [] link f]),(1, .arr 10 0 (ir eOu []))] ?_ ?_ ?_ ?_ ?_<;>first | exact rfl | decide | omega | exact zU)
 subst he
 have hnode:=hnode rfl
 rw [if_neg (by decide),wOc,if_pos rfl]
 refine⟨⟨x, [], [], [],0⟩,?_⟩
 show PG _ _ _ _ _ _ _
 have hPl:=qfc N ls T ff ⟨h',x.m,x.u,x.t,x.got,x.heard,x.told,x.seen⟩ 0 [] [] [] link f hl
 simp only [hnode] at hPl
 have hmA:=qpG x.m (indexL link 0 (ins x.h.node 0 ls)) f.m (h.gm.g hb) h.mo (fun l hl'=>by have:=h.gm.ii l hl';omega)
 cases ff
 ·simp only [Bool.false_eq_true,if_false]
  refine pg_of 200 (fn:=f185) func185 rfl (by simp [ntmps185]) 2 rfl zC zC zC zC zC fun hs=>?_
  try refine zW ?_
  (refine zM [0,2] ?_;refine zI [none,none,none,none,none,none,none,none,none,none,none,none,none,none,some [18],none,none,none,some [0,1,2,3,4,5,6,7,8,9,10,11,12,13,14,15,16,17],some [17],none] ?_)
  try refine zO ?_
  (refine zF ?_;refine callA_of (hTk) zB ?_)
  try refine zO ?_
  (refine zG ?_;refine callA_of (qbY) zB ?_)
  try refine zO ?_
  (refine zM [0,2] ?_;refine zI [none,none,none,none,none,none,none,none,none,none,none,none,some [0],none,none,none,none,none,none,some [15]] ?_)
  try refine zO ?_
  (refine zF ?_;refine callA_of (qdA x.u x.h f.epoch gh) zB ?_)
  ((try refine zO ?_);(try with_reducible exact True.intro))
 ·simp only [if_true]
  refine pg_of 200 (fn:=f185) func185 rfl (by simp [ntmps185]) 2 rfl zC zC zC zC zC fun hs=>?_
  try refine zW ?_
  (refine zM [0,2] ?_;refine zI [none,none,none,none,none,none,none,none,none,none,none,none,none,none,some [18],none,none,none,some [0,1,2,3,4,5,6,7,8,9,10,11,12,13,14,15,16,17],some [17],none] ?_)
  try refine zO ?_
  (refine zF ?_;refine callA_of (hTk) zB ?_)
  try refine zO ?_
  (refine zG ?_;refine callA_of (qbY) zB ?_)
  try refine zO ?_
  (refine zM [0] ?_;refine zI [none,none,none,none,none,none,none,some [0,1,2,3,4,5,8,9,10,11,12],none,none,none,none,none,some [0],none,none,none,some []] ?_)
  try refine zO ?_
  (refine qaM ?_;refine zW ?_;refine callG_of [0,1] (hPl) zU ?_)
  try refine zO ?_
  (refine zF ?_;refine callA_of (hmA) zB ?_)
  ((try refine zO ?_);(try with_reducible exact True.intro))
theorem qlb (N:Int) (ls:List (Int × Int)) (T:List Nd) (ff:Bool) (x:No) (link:Int) (f:Fm) (t:Int) (h:NOk N ls T t x) (ht:0≤t) (hb:t≤1000) (hl:ls.length≤1000000) (e0:1≤f.epoch∧f.epoch≤200):
  ∃pd,PB prog 186 [.ptr 0 0 0 0] [.arr 45 0 [wRow N ls T ff x (.ref 1 0 0 0) [] [] link f], .arr 10 0 (ir eOu [])] (nch (floodedN ls ff x link f).e) (Wq N ls T ff link f pd) (wOc N ls T ff link f (floodedN ls ff x link f)):=by
 have hK:=qjt N ls T ff x 0 [] [] [] link f
 by_cases ck:f.kind=kindN ff
 rotate_left
 ·have z:floodedN ls ff x link f=errT 9:=by unfold floodedN;rw [if_pos ck]
  rw [z,wOc,if_neg (by decide)]
  refine⟨⟨x, [], [], [],0⟩,?_⟩
  show PX _ _ _ _ _ _
  have ck2:(f.kind==kindN ff)=false:=beq_eq_false_iff_ne.2 ck
  generalize kindN ff=kk at *
  refine px_of 200 (fn:=f186) func186 rfl (by simp [ntmps186]) 2 rfl zC zC fun hs=>?_
  (refine walk_trim [0] trivial zL ?_;refine zW ?_;refine qcE [none,none,none,none,none,none,some [0,1,2,3,4],none,some []] 8 [3,3,3,3,3,3,3,3,2] mixed (by kernel_rfl) (by kernel_rfl) ?_)
  try refine zO ?_
  (refine qaM ?_;refine zW ?_;refine callG_of [0,1] (hK) zU ?_)
  (try simp (maxSteps:=2000000) (disch:=omega) only [go_sem,simprocAttr,zD,zE,ck2])
  (refine qcF ?_;refine zW ?_;refine qax [] (qct 9) zU ?_)
  rintro W rfl nx' hnx
  (refine endX_of [(0, .arr 45 0 [wRow N ls T ff x (.ref 1 0 0 0) [] [] link f]),(1, .arr 10 0 (ir eOu []))] ?_ ?_ ?_ ?_ ?_<;>first | exact rfl | decide | omega | exact zU)
 have ck2:(f.kind==kindN ff)=true:=beq_iff_eq.2 ck
 by_cases cE:f.epoch < x.t.epoch
 ·have z:floodedN ls ff x link f=errT 1:=by unfold floodedN;rw [if_neg (fun q=>q ck),if_pos cE]
  rw [z,wOc,if_neg (by decide)]
  refine⟨⟨x, [], [], [],0⟩,?_⟩
  show PX _ _ _ _ _ _
  generalize kindN ff=kk at *
  refine px_of 200 (fn:=f186) func186 rfl (by simp [ntmps186]) 2 rfl zC zC fun hs=>?_
  try refine zW ?_
  (refine zM [0] ?_;refine zI [none,none,none,none,none,none,some [0,1,2,3,4],none,some []] ?_)
  try refine zO ?_
  (refine qaM ?_;refine zW ?_;refine callG_of [0,1] (hK) zU ?_)
  (try simp (maxSteps:=2000000) (disch:=omega) only [go_sem,simprocAttr,zD,zE,ck2])
  (refine zF ?_;refine callA_of (qar 9) zB ?_)
  (try simp (maxSteps:=2000000) (disch:=omega) only [go_sem,simprocAttr,zD,zE,cE])
  (refine at_x ?_;refine zW ?_;refine qax [] (qct 1) zU ?_)
  rintro W rfl
  try refine zO ?_
  (refine endX_of [(0, .arr 45 0 [wRow N ls T ff x (.ref 1 0 0 0) [] [] link f]),(1, .arr 10 0 (ir eOu []))] ?_ ?_ ?_ ?_ ?_<;>first | exact rfl | decide | omega | exact zU)
 have h5:=h.outs5
 have htd:=h.td
 obtain⟨gh,i5⟩:=h.gH
 have hB:=fun x'=>qfv N ls T ff x' 0 [] [] [] link f hl
 have hO:=fun x'=>qfX N ls T ff x' 0 [] [] [] link f hl
 have hPl:=qfc N ls T ff x 0 [] [] [] link f hl
 have hMk:=qmg x.m x.h f.epoch (indexL link 0 (ins x.h.node 0 ls)) gh i5 (h.gm.g hb) (by have:=h.mo;have:=h.gm.i;omega) (fun q=>(h.ml (by omega)).1)
 have hTu:=qdA x.u x.h f.epoch gh
 have hFl:=qnW x.t.epoch x.t.up x.t.wait x.t.kids f.epoch link (outs x.h.node 0 ls).length
 rw [if_neg (show ¬((outs x.h.node 0 ls).length:Int) < 0 by omega)] at hFl
 cases ff
 ·by_cases cS:x.t.epoch=f.epoch
  ·have hx:NOk N ls T t ⟨x.h,x.m,(qa1 x.u x.h f.epoch).1,x.t,x.got,x.heard,x.told,x.seen⟩:=h.turn e0.2 ht
   have z:floodedN ls false x link f=qaw ls false ⟨⟨x.h,x.m,(qa1 x.u x.h f.epoch).1,x.t,x.got,x.heard,x.told,x.seen⟩, [⟨qaz ls link,ctl 4 f.epoch⟩], [], [],0⟩:=by
    unfold floodedN
    rw [if_neg (fun q=>q ck),if_neg cE,if_pos cS]
    simp only [if_true,Bool.false_eq_true,if_false]
   have hT:=qbM N ls T false ⟨⟨x.h,x.m,(qa1 x.u x.h f.epoch).1,x.t,x.got,x.heard,x.told,x.seen⟩, [⟨qaz ls link,ctl 4 f.epoch⟩], [], [],0⟩ link f (by simp) hl rfl (ggot hx) (gown hx hb _) (show x.got.length≤18 by have:=h.got6;omega)
   rw [←z] at hT
   refine⟨⟨⟨x.h,x.m,(qa1 x.u x.h f.epoch).1,x.t,x.got,x.heard,x.told,x.seen⟩, [⟨qaz ls link,ctl 4 f.epoch⟩], [], [],0⟩,?_⟩
   have hO1:=hO ⟨x.h,x.m,(qa1 x.u x.h f.epoch).1,x.t,x.got,x.heard,x.told,x.seen⟩
   have hB1:=hB ⟨x.h,x.m,(qa1 x.u x.h f.epoch).1,x.t,x.got,x.heard,x.told,x.seen⟩
   have hS:=qcS N ls T false ⟨x.h,x.m,(qa1 x.u x.h f.epoch).1,x.t,x.got,x.heard,x.told,x.seen⟩ 0 [] [] [] link f rfl (by omega) (qaz ls link) (ctl 4 f.epoch)
   simp only [List.nil_append,Nat.zero_add,List.length_singleton] at hS hT
   rw [if_pos (beq_iff_eq.2 cS)] at hFl
   clear z hx hB hO
   simp only at hO1
   simp only [ctl] at hS hT
   generalize kindN false=kk at *
   generalize floodedN ls false x link f=r at *
   by_cases he:r.e=0
   ·have hT2:=qcc hT he
    rw [wOc,if_pos he]
    show PG _ _ _ _ _ _ _
    refine pg_of 200 (fn:=f186) func186 rfl (by simp [ntmps186]) 2 rfl zC zC zC zC zC fun hs=>?_
    try refine zW ?_
    (refine zM [0] ?_;refine zI [none,none,none,none,none,none,some [0,1,2,3,4],none,some []] ?_)
    try refine zO ?_
    (refine qaM ?_;refine zW ?_;refine callG_of [0,1] (hK) zU ?_)
    (try simp (maxSteps:=2000000) (disch:=omega) only [go_sem,simprocAttr,zD,zE,ck2])
    (refine zF ?_;refine callA_of (qar 9) zB ?_)
    try refine zO ?_
    (refine zG ?_;refine callA_of (qar 1) zB ?_)
    try refine zO ?_
    (refine zM [0,2] ?_;refine zI [none,none,none,none,none,none,none,none,none,none,none,none,some [0],none,none,none,none,none,none,some [15]] ?_)
    try refine zO ?_
    (refine zF ?_;refine callA_of (hTu) zB ?_)
    try refine zO ?_
    (refine zM [0,2] ?_;refine zI [none,none,none,none,none,none,none,none,none,none,none,some [0,1,2,3,4,5,6,7,8,9,17],none,some [17],none,none,none,some [0,1,2,3,4,5,6,7,8,9,10,11,12,13,14,15,16],some [16],none] ?_)
    try refine zO ?_
    (refine qaM ?_;refine zW ?_;refine callG_of [0,1] (hO1) zU ?_)
    try refine zO ?_
    (refine zF ?_;refine callA_of (hFl) zB ?_)
    try refine zO ?_
    (refine at_g 200 ?_;refine zW ?_;refine callG_of [0,1] (hB1) zU ?_)
    try refine zO ?_
    (refine at_g 200 ?_;refine zW ?_;refine callG_of [0,1] (hS) zU ?_)
    try refine zO ?_
    (refine at_g 200 ?_;refine zW ?_;refine callG_of [0,1] (hT2) zU ?_;((try refine zW ?_);(try with_reducible exact True.intro)))
   ·have hT2:=qcb hT he
    rw [wOc,if_neg he]
    show PX _ _ _ _ _ _
    refine px_of 200 (fn:=f186) func186 rfl (by simp [ntmps186]) 2 rfl zC zC fun hs=>?_
    try refine zW ?_
    (refine zM [0] ?_;refine zI [none,none,none,none,none,none,some [0,1,2,3,4],none,some []] ?_)
    try refine zO ?_
    (refine qaM ?_;refine zW ?_;refine callG_of [0,1] (hK) zU ?_)
    (try simp (maxSteps:=2000000) (disch:=omega) only [go_sem,simprocAttr,zD,zE,ck2])
    (refine zF ?_;refine callA_of (qar 9) zB ?_)
    try refine zO ?_
    (refine zG ?_;refine callA_of (qar 1) zB ?_)
    try refine zO ?_
    (refine zM [0,2] ?_;refine zI [none,none,none,none,none,none,none,none,none,none,none,none,some [0],none,none,none,none,none,none,some [15]] ?_)
    try refine zO ?_
    (refine zF ?_;refine callA_of (hTu) zB ?_)
    try refine zO ?_
    (refine zM [0,2] ?_;refine zI [none,none,none,none,none,none,none,none,none,none,none,some [0,1,2,3,4,5,6,7,8,9,17],none,some [17],none,none,none,some [0,1,2,3,4,5,6,7,8,9,10,11,12,13,14,15,16],some [16],none] ?_)
    try refine zO ?_
    (refine qaM ?_;refine zW ?_;refine callG_of [0,1] (hO1) zU ?_)
    try refine zO ?_
    (refine zF ?_;refine callA_of (hFl) zB ?_)
    try refine zO ?_
    (refine at_g 200 ?_;refine zW ?_;refine callG_of [0,1] (hB1) zU ?_)
    try refine zO ?_
    (refine at_g 200 ?_;refine zW ?_;refine callG_of [0,1] (hS) zU ?_)
    try refine zO ?_
    (refine at_x ?_;refine zW ?_;refine qax [0,1] (hT2) zU ?_)
    rintro W rfl
    try refine zO ?_
    (refine endX_of [(0, .arr 45 0 [wRow N ls T false ⟨x.h,x.m,(qa1 x.u x.h f.epoch).1,x.t,x.got,x.heard,x.told,x.seen⟩ (.ref 1 1 0 1) [] [] link f]),(1, .arr 10 1 (ir eOu [⟨qaz ls link,⟨4,f.epoch,(0,0), [],0,0,0, []⟩⟩]))] ?_ ?_ ?_ ?_ ?_<;>first | exact rfl | decide | omega | exact zU)
  have hx:NOk N ls T t ⟨x.h,x.m,(qa1 x.u x.h f.epoch).1,x.t,x.got,x.heard,x.told,x.seen⟩:=h.turn e0.2 ht
  have hy:NOk N ls T t ⟨x.h,x.m,(qa1 x.u x.h f.epoch).1,⟨f.epoch,link,((outs x.h.node 0 ls).length:Int), []⟩,x.got,x.heard,x.told,x.seen⟩:=
   hx.tree ⟨by simp only;omega,by simp only;omega⟩ ⟨by simp only;omega,by simp only;omega⟩ (by simp;omega) (by simp only;omega)
  obtain⟨d,hd⟩: ∃d:Td,d=⟨⟨x.h,x.m,(qa1 x.u x.h f.epoch).1,⟨f.epoch,link,((outs x.h.node 0 ls).length:Int), []⟩,x.got,x.heard,x.told,x.seen⟩, [⟨qaz ls link,ctl 3 f.epoch⟩], [], [],0⟩:=⟨_,rfl⟩
  have hdx:NOk N ls T t d.x:=by rw [hd];exact hy
  have z:floodedN ls false x link f=qaw ls false (floodN ls false d f.epoch):=by
   unfold floodedN
   rw [if_neg (fun q=>q ck),if_neg cE,if_neg cS,hd]
   simp only [qbR,if_neg cS,if_neg (show ¬((outs x.h.node 0 ls).length:Int) < 0 by omega),if_true,Bool.false_eq_true,if_false]
  have hk:=hdx.flood false f.epoch
  have hF:=qdk N ls T false d link f hl (by rw [hd];simp only [List.length_singleton];omega) f.epoch
  have hT:=qbM N ls T false (floodN ls false d f.epoch) link f (by rw [hd];simp only [floodN,List.length_append,List.length_singleton,List.length_map];omega) hl (by rw [hd];rfl) (ggot hk) (gown hk hb _) (by have:=hk.got6;omega)
  rw [←z] at hT
  refine⟨floodN ls false d f.epoch,?_⟩
  have hO1:=hO ⟨x.h,x.m,(qa1 x.u x.h f.epoch).1,x.t,x.got,x.heard,x.told,x.seen⟩
  have hB1:=hB ⟨x.h,x.m,(qa1 x.u x.h f.epoch).1,⟨f.epoch,link,((outs x.h.node 0 ls).length:Int), []⟩,x.got,x.heard,x.told,x.seen⟩
  have hS:=qcS N ls T false ⟨x.h,x.m,(qa1 x.u x.h f.epoch).1,⟨f.epoch,link,((outs x.h.node 0 ls).length:Int), []⟩,x.got,x.heard,x.told,x.seen⟩ 0 [] [] [] link f rfl (by omega) (qaz ls link) (ctl 3 f.epoch)
  rw [if_neg (show ¬(x.t.epoch==f.epoch)=true by simp only [beq_iff_eq];exact cS)] at hFl
  clear hk z hB hO
  generalize floodN ls false d f.epoch=dd at *
  rw [hd] at hF
  simp only [List.nil_append,Nat.zero_add,List.length_singleton] at hS hF
  simp only at hO1
  simp only [ctl] at hS hF
  clear hd hdx hy hx d
  generalize kindN false=kk at *
  generalize floodedN ls false x link f=r at *
  by_cases he:r.e=0
  ·have hT2:=qcc hT he
   rw [wOc,if_pos he]
   show PG _ _ _ _ _ _ _
   refine pg_of 200 (fn:=f186) func186 rfl (by simp [ntmps186]) 2 rfl zC zC zC zC zC fun hs=>?_
   try refine zW ?_
   (refine zM [0] ?_;refine zI [none,none,none,none,none,none,some [0,1,2,3,4],none,some []] ?_)
   try refine zO ?_
   (refine qaM ?_;refine zW ?_;refine callG_of [0,1] (hK) zU ?_)
   (try simp (maxSteps:=2000000) (disch:=omega) only [go_sem,simprocAttr,zD,zE,ck2])
   (refine zF ?_;refine callA_of (qar 9) zB ?_)
   try refine zO ?_
   (refine zG ?_;refine callA_of (qar 1) zB ?_)
   try refine zO ?_
   (refine zM [0,2] ?_;refine zI [none,none,none,none,none,none,none,none,none,none,none,none,some [0],none,none,none,none,none,none,some [15]] ?_)
   try refine zO ?_
   (refine zF ?_;refine callA_of (hTu) zB ?_)
   try refine zO ?_
   (refine zM [0,2] ?_;refine zI [none,none,none,none,none,none,none,none,none,none,none,some [0,1,2,3,4,5,6,7,8,9,17],none,some [17],none,none,none,some [0,1,2,3,4,5,6,7,8,9,10,11,12,13,14,15,16],some [16],none] ?_)
   try refine zO ?_
   (refine qaM ?_;refine zW ?_;refine callG_of [0,1] (hO1) zU ?_)
   try refine zO ?_
   (refine zF ?_;refine callA_of (hFl) zB ?_)
   try refine zO ?_
   (refine at_g 200 ?_;refine zW ?_;refine callG_of [0,1] (hB1) zU ?_)
   try refine zO ?_
   (refine at_g 200 ?_;refine zW ?_;refine callG_of [0,1] (hS) zU ?_)
   try refine zO ?_
   (refine at_g 200 ?_;refine zW ?_;refine callG_of [0,1] (hF) zU ?_)
   try refine zO ?_
   (refine at_g 200 ?_;refine zW ?_;refine callG_of [0,1] (hT2) zU ?_;((try refine zW ?_);(try with_reducible exact True.intro)))
  ·have hT2:=qcb hT he
   rw [wOc,if_neg he]
   show PX _ _ _ _ _ _
   refine px_of 200 (fn:=f186) func186 rfl (by simp [ntmps186]) 2 rfl zC zC fun hs=>?_
   try refine zW ?_
   (refine zM [0] ?_;refine zI [none,none,none,none,none,none,some [0,1,2,3,4],none,some []] ?_)
   try refine zO ?_
   (refine qaM ?_;refine zW ?_;refine callG_of [0,1] (hK) zU ?_)
   (try simp (maxSteps:=2000000) (disch:=omega) only [go_sem,simprocAttr,zD,zE,ck2])
   (refine zF ?_;refine callA_of (qar 9) zB ?_)
   try refine zO ?_
   (refine zG ?_;refine callA_of (qar 1) zB ?_)
   try refine zO ?_
   (refine zM [0,2] ?_;refine zI [none,none,none,none,none,none,none,none,none,none,none,none,some [0],none,none,none,none,none,none,some [15]] ?_)
   try refine zO ?_
   (refine zF ?_;refine callA_of (hTu) zB ?_)
   try refine zO ?_
   (refine zM [0,2] ?_;refine zI [none,none,none,none,none,none,none,none,none,none,none,some [0,1,2,3,4,5,6,7,8,9,17],none,some [17],none,none,none,some [0,1,2,3,4,5,6,7,8,9,10,11,12,13,14,15,16],some [16],none] ?_)
   try refine zO ?_
   (refine qaM ?_;refine zW ?_;refine callG_of [0,1] (hO1) zU ?_)
   try refine zO ?_
   (refine zF ?_;refine callA_of (hFl) zB ?_)
   try refine zO ?_
   (refine at_g 200 ?_;refine zW ?_;refine callG_of [0,1] (hB1) zU ?_)
   try refine zO ?_
   (refine at_g 200 ?_;refine zW ?_;refine callG_of [0,1] (hS) zU ?_)
   try refine zO ?_
   (refine at_g 200 ?_;refine zW ?_;refine callG_of [0,1] (hF) zU ?_)
   try refine zO ?_
   (refine at_x ?_;refine zW ?_;refine qax [0,1] (hT2) zU ?_)
   rintro W rfl
   try refine zO ?_
   (refine endX_of [(0, .arr 45 0 [wRow N ls T false dd.x (.ref 1 dd.out.length 0 dd.out.length) dd.ps dd.path link f]),(1, .arr 10 dd.out.length (ir eOu dd.out))] ?_ ?_ ?_ ?_ ?_<;>first | exact rfl | decide | omega | exact zU)
 ·by_cases cS:x.t.epoch=f.epoch
  ·have hx:NOk N ls T t ⟨x.h,(qa2 x.m x.h f.epoch (indexL link 0 (ins x.h.node 0 ls))).1,x.u,x.t,x.got,x.heard,x.told,x.seen⟩:=h.mark e0 ht _
   have z:floodedN ls true x link f=qaw ls true ⟨⟨x.h,(qa2 x.m x.h f.epoch (indexL link 0 (ins x.h.node 0 ls))).1,x.u,x.t,x.got,x.heard,x.told,x.seen⟩, [⟨qaz ls link,ctl 4 f.epoch⟩], [], [],0⟩:=by
    unfold floodedN
    rw [if_neg (fun q=>q ck),if_neg cE,if_pos cS]
    simp only [if_true,Bool.false_eq_true,if_false]
   have hT:=qbM N ls T true ⟨⟨x.h,(qa2 x.m x.h f.epoch (indexL link 0 (ins x.h.node 0 ls))).1,x.u,x.t,x.got,x.heard,x.told,x.seen⟩, [⟨qaz ls link,ctl 4 f.epoch⟩], [], [],0⟩ link f (by simp) hl rfl (ggot hx) (gown hx hb _) (show x.got.length≤18 by have:=h.got6;omega)
   rw [←z] at hT
   refine⟨⟨⟨x.h,(qa2 x.m x.h f.epoch (indexL link 0 (ins x.h.node 0 ls))).1,x.u,x.t,x.got,x.heard,x.told,x.seen⟩, [⟨qaz ls link,ctl 4 f.epoch⟩], [], [],0⟩,?_⟩
   have hO1:=hO ⟨x.h,(qa2 x.m x.h f.epoch (indexL link 0 (ins x.h.node 0 ls))).1,x.u,x.t,x.got,x.heard,x.told,x.seen⟩
   have hB1:=hB ⟨x.h,(qa2 x.m x.h f.epoch (indexL link 0 (ins x.h.node 0 ls))).1,x.u,x.t,x.got,x.heard,x.told,x.seen⟩
   have hS:=qcS N ls T true ⟨x.h,(qa2 x.m x.h f.epoch (indexL link 0 (ins x.h.node 0 ls))).1,x.u,x.t,x.got,x.heard,x.told,x.seen⟩ 0 [] [] [] link f rfl (by omega) (qaz ls link) (ctl 4 f.epoch)
   simp only [List.nil_append,Nat.zero_add,List.length_singleton] at hS hT
   rw [if_pos (beq_iff_eq.2 cS)] at hFl
   clear z hx hB hO
   simp only at hO1
   simp only [ctl] at hS hT
   generalize kindN true=kk at *
   generalize floodedN ls true x link f=r at *
   by_cases he:r.e=0
   ·have hT2:=qcc hT he
    rw [wOc,if_pos he]
    show PG _ _ _ _ _ _ _
    refine pg_of 200 (fn:=f186) func186 rfl (by simp [ntmps186]) 2 rfl zC zC zC zC zC fun hs=>?_
    try refine zW ?_
    (refine zM [0] ?_;refine zI [none,none,none,none,none,none,some [0,1,2,3,4],none,some []] ?_)
    try refine zO ?_
    (refine qaM ?_;refine zW ?_;refine callG_of [0,1] (hK) zU ?_)
    (try simp (maxSteps:=2000000) (disch:=omega) only [go_sem,simprocAttr,zD,zE,ck2])
    (refine zF ?_;refine callA_of (qar 9) zB ?_)
    try refine zO ?_
    (refine zG ?_;refine callA_of (qar 1) zB ?_)
    try refine zO ?_
    (refine zM [0,2] ?_;refine zI [none,none,none,none,none,none,none,none,none,none,none,none,none,some [0,1,2,3,4,5,6,7,8,9,10,11],some [0],none,none,none,none,none,none,some [17]] ?_)
    try refine zO ?_
    (refine qaM ?_;refine zW ?_;refine callG_of [0,1] (hPl) zU ?_)
    try refine zO ?_
    (refine zF ?_;refine callA_of (hMk) zB ?_)
    try refine zO ?_
    (refine zM [0,2] ?_;refine zI [none,none,none,none,none,none,none,none,none,none,none,some [0,1,2,3,4,5,6,7,8,9,17],none,some [17],none,none,none,some [0,1,2,3,4,5,6,7,8,9,10,11,12,13,14,15,16],some [16],none] ?_)
    try refine zO ?_
    (refine qaM ?_;refine zW ?_;refine callG_of [0,1] (hO1) zU ?_)
    try refine zO ?_
    (refine zF ?_;refine callA_of (hFl) zB ?_)
    try refine zO ?_
    (refine at_g 200 ?_;refine zW ?_;refine callG_of [0,1] (hB1) zU ?_)
    try refine zO ?_
    (refine at_g 200 ?_;refine zW ?_;refine callG_of [0,1] (hS) zU ?_)
    try refine zO ?_
    (refine at_g 200 ?_;refine zW ?_;refine callG_of [0,1] (hT2) zU ?_;((try refine zW ?_);(try with_reducible exact True.intro)))
   ·have hT2:=qcb hT he
    rw [wOc,if_neg he]
    show PX _ _ _ _ _ _
    refine px_of 200 (fn:=f186) func186 rfl (by simp [ntmps186]) 2 rfl zC zC fun hs=>?_
    try refine zW ?_
    (refine zM [0] ?_;refine zI [none,none,none,none,none,none,some [0,1,2,3,4],none,some []] ?_)
    try refine zO ?_
    (refine qaM ?_;refine zW ?_;refine callG_of [0,1] (hK) zU ?_)
    (try simp (maxSteps:=2000000) (disch:=omega) only [go_sem,simprocAttr,zD,zE,ck2])
    (refine zF ?_;refine callA_of (qar 9) zB ?_)
    try refine zO ?_
    (refine zG ?_;refine callA_of (qar 1) zB ?_)
    try refine zO ?_
    (refine zM [0,2] ?_;refine zI [none,none,none,none,none,none,none,none,none,none,none,none,none,some [0,1,2,3,4,5,6,7,8,9,10,11],some [0],none,none,none,none,none,none,some [17]] ?_)
    try refine zO ?_
    (refine qaM ?_;refine zW ?_;refine callG_of [0,1] (hPl) zU ?_)
    try refine zO ?_
    (refine zF ?_;refine callA_of (hMk) zB ?_)
    try refine zO ?_
    (refine zM [0,2] ?_;refine zI [none,none,none,none,none,none,none,none,none,none,none,some [0,1,2,3,4,5,6,7,8,9,17],none,some [17],none,none,none,some [0,1,2,3,4,5,6,7,8,9,10,11,12,13,14,15,16],some [16],none] ?_)
    try refine zO ?_
    (refine qaM ?_;refine zW ?_;refine callG_of [0,1] (hO1) zU ?_)
    try refine zO ?_
    (refine zF ?_;refine callA_of (hFl) zB ?_)
    try refine zO ?_
    (refine at_g 200 ?_;refine zW ?_;refine callG_of [0,1] (hB1) zU ?_)
    try refine zO ?_
    (refine at_g 200 ?_;refine zW ?_;refine callG_of [0,1] (hS) zU ?_)
    try refine zO ?_
    (refine at_x ?_;refine zW ?_;refine qax [0,1] (hT2) zU ?_)
    rintro W rfl
    try refine zO ?_
    (refine endX_of [(0, .arr 45 0 [wRow N ls T true ⟨x.h,(qa2 x.m x.h f.epoch (indexL link 0 (ins x.h.node 0 ls))).1,x.u,x.t,x.got,x.heard,x.told,x.seen⟩ (.ref 1 1 0 1) [] [] link f]),(1, .arr 10 1 (ir eOu [⟨qaz ls link,⟨4,f.epoch,(0,0), [],0,0,0, []⟩⟩]))] ?_ ?_ ?_ ?_ ?_<;>first | exact rfl | decide | omega | exact zU)
  have hx:NOk N ls T t ⟨x.h,(qa2 x.m x.h f.epoch (indexL link 0 (ins x.h.node 0 ls))).1,x.u,x.t,x.got,x.heard,x.told,x.seen⟩:=h.mark e0 ht _
  have hy:NOk N ls T t ⟨x.h,(qa2 x.m x.h f.epoch (indexL link 0 (ins x.h.node 0 ls))).1,x.u,⟨f.epoch,link,((outs x.h.node 0 ls).length:Int), []⟩,x.got,x.heard,x.told,x.seen⟩:=
   hx.tree ⟨by simp only;omega,by simp only;omega⟩ ⟨by simp only;omega,by simp only;omega⟩ (by simp;omega) (by simp only;omega)
  obtain⟨d,hd⟩: ∃d:Td,d=⟨⟨x.h,(qa2 x.m x.h f.epoch (indexL link 0 (ins x.h.node 0 ls))).1,x.u,⟨f.epoch,link,((outs x.h.node 0 ls).length:Int), []⟩,x.got,x.heard,x.told,x.seen⟩, [⟨qaz ls link,ctl 3 f.epoch⟩], [], [],0⟩:=⟨_,rfl⟩
  have hdx:NOk N ls T t d.x:=by rw [hd];exact hy
  have z:floodedN ls true x link f=qaw ls true (floodN ls true d f.epoch):=by
   unfold floodedN
   rw [if_neg (fun q=>q ck),if_neg cE,if_neg cS,hd]
   simp only [qbR,if_neg cS,if_neg (show ¬((outs x.h.node 0 ls).length:Int) < 0 by omega),if_true,Bool.false_eq_true,if_false]
  have hk:=hdx.flood true f.epoch
  have hF:=qdk N ls T true d link f hl (by rw [hd];simp only [List.length_singleton];omega) f.epoch
  have hT:=qbM N ls T true (floodN ls true d f.epoch) link f (by rw [hd];simp only [floodN,List.length_append,List.length_singleton,List.length_map];omega) hl (by rw [hd];rfl) (ggot hk) (gown hk hb _) (by have:=hk.got6;omega)
  rw [←z] at hT
  refine⟨floodN ls true d f.epoch,?_⟩
  have hO1:=hO ⟨x.h,(qa2 x.m x.h f.epoch (indexL link 0 (ins x.h.node 0 ls))).1,x.u,x.t,x.got,x.heard,x.told,x.seen⟩
  have hB1:=hB ⟨x.h,(qa2 x.m x.h f.epoch (indexL link 0 (ins x.h.node 0 ls))).1,x.u,⟨f.epoch,link,((outs x.h.node 0 ls).length:Int), []⟩,x.got,x.heard,x.told,x.seen⟩
  have hS:=qcS N ls T true ⟨x.h,(qa2 x.m x.h f.epoch (indexL link 0 (ins x.h.node 0 ls))).1,x.u,⟨f.epoch,link,((outs x.h.node 0 ls).length:Int), []⟩,x.got,x.heard,x.told,x.seen⟩ 0 [] [] [] link f rfl (by omega) (qaz ls link) (ctl 3 f.epoch)
  rw [if_neg (show ¬(x.t.epoch==f.epoch)=true by simp only [beq_iff_eq];exact cS)] at hFl
  clear hk z hB hO
  generalize floodN ls true d f.epoch=dd at *
  rw [hd] at hF
  simp only [List.nil_append,Nat.zero_add,List.length_singleton] at hS hF
  simp only at hO1
  simp only [ctl] at hS hF
  clear hd hdx hy hx d
  generalize kindN true=kk at *
  generalize floodedN ls true x link f=r at *
  by_cases he:r.e=0
  ·have hT2:=qcc hT he
   rw [wOc,if_pos he]
   show PG _ _ _ _ _ _ _
   refine pg_of 200 (fn:=f186) func186 rfl (by simp [ntmps186]) 2 rfl zC zC zC zC zC fun hs=>?_
   try refine zW ?_
   (refine zM [0] ?_;refine zI [none,none,none,none,none,none,some [0,1,2,3,4],none,some []] ?_)
   try refine zO ?_
   (refine qaM ?_;refine zW ?_;refine callG_of [0,1] (hK) zU ?_)
   (try simp (maxSteps:=2000000) (disch:=omega) only [go_sem,simprocAttr,zD,zE,ck2])
   (refine zF ?_;refine callA_of (qar 9) zB ?_)
   try refine zO ?_
   (refine zG ?_;refine callA_of (qar 1) zB ?_)
   try refine zO ?_
   (refine zM [0,2] ?_;refine zI [none,none,none,none,none,none,none,none,none,none,none,none,none,some [0,1,2,3,4,5,6,7,8,9,10,11],some [0],none,none,none,none,none,none,some [17]] ?_)
   try refine zO ?_
   (refine qaM ?_;refine zW ?_;refine callG_of [0,1] (hPl) zU ?_)
   try refine zO ?_
   (refine zF ?_;refine callA_of (hMk) zB ?_)
   try refine zO ?_
   (refine zM [0,2] ?_;refine zI [none,none,none,none,none,none,none,none,none,none,none,some [0,1,2,3,4,5,6,7,8,9,17],none,some [17],none,none,none,some [0,1,2,3,4,5,6,7,8,9,10,11,12,13,14,15,16],some [16],none] ?_)
   try refine zO ?_
   (refine qaM ?_;refine zW ?_;refine callG_of [0,1] (hO1) zU ?_)
   try refine zO ?_
   (refine zF ?_;refine callA_of (hFl) zB ?_)
   try refine zO ?_
   (refine at_g 200 ?_;refine zW ?_;refine callG_of [0,1] (hB1) zU ?_)
   try refine zO ?_
   (refine at_g 200 ?_;refine zW ?_;refine callG_of [0,1] (hS) zU ?_)
   try refine zO ?_
   (refine at_g 200 ?_;refine zW ?_;refine callG_of [0,1] (hF) zU ?_)
   try refine zO ?_
   (refine at_g 200 ?_;refine zW ?_;refine callG_of [0,1] (hT2) zU ?_;((try refine zW ?_);(try with_reducible exact True.intro)))
  ·have hT2:=qcb hT he
   rw [wOc,if_neg he]
   show PX _ _ _ _ _ _
   refine px_of 200 (fn:=f186) func186 rfl (by simp [ntmps186]) 2 rfl zC zC fun hs=>?_
   try refine zW ?_
   (refine zM [0] ?_;refine zI [none,none,none,none,none,none,some [0,1,2,3,4],none,some []] ?_)
   try refine zO ?_
   (refine qaM ?_;refine zW ?_;refine callG_of [0,1] (hK) zU ?_)
   (try simp (maxSteps:=2000000) (disch:=omega) only [go_sem,simprocAttr,zD,zE,ck2])
   (refine zF ?_;refine callA_of (qar 9) zB ?_)
   try refine zO ?_
   (refine zG ?_;refine callA_of (qar 1) zB ?_)
   try refine zO ?_
   (refine zM [0,2] ?_;refine zI [none,none,none,none,none,none,none,none,none,none,none,none,none,some [0,1,2,3,4,5,6,7,8,9,10,11],some [0],none,none,none,none,none,none,some [17]] ?_)
   try refine zO ?_
   (refine qaM ?_;refine zW ?_;refine callG_of [0,1] (hPl) zU ?_)
   try refine zO ?_
   (refine zF ?_;refine callA_of (hMk) zB ?_)
   try refine zO ?_
   (refine zM [0,2] ?_;refine zI [none,none,none,none,none,none,none,none,none,none,none,some [0,1,2,3,4,5,6,7,8,9,17],none,some [17],none,none,none,some [0,1,2,3,4,5,6,7,8,9,10,11,12,13,14,15,16],some [16],none] ?_)
   try refine zO ?_
   (refine qaM ?_;refine zW ?_;refine callG_of [0,1] (hO1) zU ?_)
   try refine zO ?_
   (refine zF ?_;refine callA_of (hFl) zB ?_)
   try refine zO ?_
   (refine at_g 200 ?_;refine zW ?_;refine callG_of [0,1] (hB1) zU ?_)
   try refine zO ?_
   (refine at_g 200 ?_;refine zW ?_;refine callG_of [0,1] (hS) zU ?_)
   try refine zO ?_
   (refine at_g 200 ?_;refine zW ?_;refine callG_of [0,1] (hF) zU ?_)
   try refine zO ?_
   (refine at_x ?_;refine zW ?_;refine qax [0,1] (hT2) zU ?_)
   rintro W rfl
   try refine zO ?_
   (refine endX_of [(0, .arr 45 0 [wRow N ls T true dd.x (.ref 1 dd.out.length 0 dd.out.length) dd.ps dd.path link f]),(1, .arr 10 dd.out.length (ir eOu dd.out))] ?_ ?_ ?_ ?_ ?_<;>first | exact rfl | decide | omega | exact zU)
end Go.Proofs.NO
