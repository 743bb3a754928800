/- A node tells, if it can. -/
import Derived.Test.YtfhhdgkhajkapaaGreatNNe
import Derived.Test.YtfhhdgkhajkapaaGreatIdZo
set_option linter.all false
open Option renaming none->U,some->V
namespace Go.Proofs.NO
open Go Go.Idl Go.Proofs Go.GP Go.Proofs.Tryz
set_option maxHeartbeats 0
set_option maxRecDepth 100000
def nch(e:Int):List PanicEntry:= [{v:= .iface 320 (.agg #[.int .i64 e]),recovered:=false}]
def qb0:Pure prog 240 [sci .i64 0] (.tup []):=by
 refine zAa func240 λhs=>?_;exact zT
def qg3(e:Int)(h:e≠0):PX prog 240 [sci .i64 e] [] (nch e) (λW=>W= []):=by
 have h2:(e != 0)=true:=bne_iff_ne.2 h;refine zAx func240 0 λhs=>?_;(try simp only[go_sem,simprocAttr,h2]);refine qk9 rfl rfl ?_;exact endX_of [] zAe zAe zAe zAe zAe
def qau(e:Int):Pure prog 182 [scb true,sci .i64 e] (.tup []):=by
 refine zAa func182 λhs=>?_;exact zT
def qcM(e:Int):PX prog 182 [scb false,sci .i64 e] [] (nch e) (λW=>W= []):=by
 refine zAy func182 0 λhs=>?_;refine qk9 rfl rfl ?_;exact endX_of [] zAe zAe zAe zAe zAe
def Wq(N:Int)(ls:List (Int × Int))(T:List Nd)(ff:Bool)(link:Int)(f:Fm)(pd:Td)(W:List (Nat × IBlk)):Prop:=
 W= [(0, .arr 45 0 [wRow N ls T ff pd.x (.ref 1 pd.out.length 0 pd.out.length) pd.ps pd.path link f]),(1, .arr 10 pd.out.length (ir eOu pd.out))]
def wOc(N:Int)(ls:List (Int × Int))(T:List Nd)(ff:Bool)(link:Int)(f:Fm)(d:Td):Oc:=
 if d.e=0 then .ok 0 (.tup []) [(0, .arr 45 0 [wRow N ls T ff d.x (.ref 1 d.out.length 0 d.out.length) d.ps d.path link f]),(1, .arr 10 d.out.length (ir eOu d.out))] else .pan
def qqj(N:Int)(ls:List (Int × Int))(T:List Nd)(ff:Bool)(x:No)(n:Nat)(o:List Ou)(ps:List Pc)(path:List Int)(link:Int)(f:Fm)(ho:o.length=n)(hn:n<=900)(hl:ls.length<=1000000)
  (hg1: ∀p∈x.got,gPc p) (hg2:gPc (ownP ff x)) (h30:x.got.length<=18):
  PB prog 195 [.ptr 0 0 0 0] [.arr 45 0 [wRow N ls T ff x (.ref 1 n 0 n) ps path link f], .arr 10 n (ir eOu o)] (nch (qaz ls ff ⟨x,o,ps,path,0⟩).e) (Wq N ls T ff link f ⟨x,o,ps,path,0⟩) (wOc N ls T ff link f (qaz ls ff ⟨x,o,ps,path,0⟩)):=by
 subst ho;by_cases hc:qiO ff x
 rotate_left
 .have z:qaz ls ff ⟨x,o,ps,path,0⟩=⟨x,o,ps,path,0⟩:=by unfold qaz;rw[if_neg hc]
  rw[z,wOc,if_pos rfl];show PG _ _ _ _ _ _ _;refine zAg func195 2 λhs=>?_;refine zP ?_;(refine at_g 200 ?_;refine zW ?_;refine callG_of [0,1] (qfD N ls T ff x o.length o ps path link f x.t.epoch) zU ?_;refine zV ?_);by_cases c1:x.t.epoch<=x.told
  ·(refine zM [0,2,3,4] ?_;refine zI [U,U,U,U,U,U,U,U,U,U,U,U,U,U,U,U,V [],U,U,U,U,U,U,U,U,U,U,U,U,U] ?_);exact zy c1
  by_cases c2:qdm ff x x.t.epoch
  rotate_left
  .have e2:=qah c2;(refine zM [0,2,3,4] ?_;refine zI [U,U,U,U,U,U,U,U,U,U,U,U,U,U,U,U,V [],U,U,U,U,U,U,U,U,U,U,U,U,U] ?_);exact zy (zQ c1 e2)
  have e2:=qap c2;by_cases c3:x.t.wait < 1
  rotate_left
  ·(refine zM [0,2,3,4] ?_;refine zI [U,U,U,U,U,U,U,U,U,U,U,U,U,U,U,U,V [],U,U,U,U,U,U,U,U,U,U,U,U,U] ?_);refine zS (zQ c1 e2) ?_;(refine zF ?_;refine qaa (qcn x.t.epoch x.t.up x.t.wait x.t.kids x.t.epoch) zB ?_);exact zy c3
  have c4: ¬x.heard=x.t.kids.length:=λq=>hc ⟨wa,c2,c3,q⟩
  (refine zM [0,2,3,4] ?_;refine zI [U,U,U,U,U,U,U,U,U,U,U,U,U,U,U,U,V [],U,U,U,U,U,U,U,U,U,U,U,U,U] ?_);refine zS (zQ c1 e2) ?_;(refine zF ?_;refine qaa (qcn x.t.epoch x.t.up x.t.wait x.t.kids x.t.epoch) zB ?_);exact zy (zQ c3 c4)
 have hM:Pure prog 247 [lPs x.got, .p (.imm 6 [ePc (ownP ff x)])] (.tup [lPs (mrg x.got [ownP ff x]).1,sci .i64 (mrg x.got [ownP ff x]).2]):=
  qhS x.got [ownP ff x] hg1 (λp hp=>by rw[List.mem_singleton.1 hp];exact hg2) wm
 obtain⟨c1,c2,c3,c4⟩:=hc;have hc:qiO ff x:=⟨c1,c2,c3,c4⟩;have c4':(x.heard != (x.t.kids.length:Int))=false:=by simp[c4]
 have e2:=qap c2;by_cases c5:(mrg x.got [ownP ff x]).2=0
 rotate_left
 .have z:qaz ls ff ⟨x,o,ps,path,0⟩=errT (mrg x.got [ownP ff x]).2:=by unfold qaz;rw[if_pos hc,if_pos c5]
  rw[z,wOc,if_neg (show ¬(errT (mrg x.got [ownP ff x]).2).e=0 from c5)];show PX _ _ _ _ _ _;refine zAx func195 2 λhs=>?_;refine zP ?_;(refine at_g 200 ?_;refine zW ?_;refine callG_of [0,1] (qfD N ls T ff x o.length o ps path link f x.t.epoch) zU ?_;refine zV ?_);generalize ownP ff x=p at *;(refine zM [0,2,3,4] ?_;refine zI [U,U,U,U,U,U,U,U,U,U,U,U,U,U,U,U,V [],U,U,U,U,U,U,U,U,U,U,U,U,U] ?_);refine zS e2 ?_;(refine zF ?_;refine qaa (qcn x.t.epoch x.t.up x.t.wait x.t.kids x.t.epoch) zB ?_);refine zS (zQ c3 c4') ?_;refine zN [0,2,3] [U,U,U,U,U,U,V [0,1,2,3,4],V [],U,U,U,U,U] ?_;refine zX hM ?_;(refine at_x ?_;refine zW ?_;refine qaw [] (qg3 _ c5) zU ?_);rintro W rfl;exact endX_of [(0, .arr 45 0 [wRow N ls T ff x (.ref 1 o.length 0 o.length) ps path link f]),(1, .arr 10 o.length (ir eOu o))] zAe zAe zAe zAe zAe
 by_cases c6:x.t.up < 0
 .have z:qaz ls ff ⟨x,o,ps,path,0⟩=⟨setTold x x.t.epoch,o,(mrg x.got [ownP ff x]).1,path,0⟩:=by unfold qaz;rw[if_pos hc,if_neg (λq=>q c5),if_pos c6]
  rw[z,wOc,if_pos rfl];show PG _ _ _ _ _ _ _;rw[c5] at hM;generalize (mrg x.got [ownP ff x]).1=all at *;refine zAg func195 2 λhs=>?_;refine zP ?_;(refine at_g 200 ?_;refine zW ?_;refine callG_of [0,1] (qfD N ls T ff x o.length o ps path link f x.t.epoch) zU ?_;refine zV ?_);generalize ownP ff x=p at *;(refine zM [0,2,3,4] ?_;refine zI [U,U,U,U,U,U,U,U,U,U,U,U,U,U,U,U,V [],U,U,U,U,U,U,U,U,U,U,U,U,U] ?_);refine zS e2 ?_;(refine zF ?_;refine qaa (qcn x.t.epoch x.t.up x.t.wait x.t.kids x.t.epoch) zB ?_);refine zS (zQ c3 c4') ?_;refine zN [0,2,3] [U,U,U,U,U,U,V [0,1,2,3,4],V [],U,U,U,U,U] ?_;refine zX hM ?_;(refine zG ?_;refine qaa (qb0) zB ?_);(try simp(maxSteps:=2000000) (disch:=omega) only[go_sem,simprocAttr,zD,zE,c6,setTold])
 .have z:qaz ls ff ⟨x,o,ps,path,0⟩=⟨setTold x x.t.epoch,o++ [⟨qaE ls x.t.up,⟨5,x.t.epoch,(0,0),(mrg x.got [ownP ff x]).1,0,0,0, []⟩⟩],ps,path,0⟩:=by
   unfold qaz;rw[if_pos hc,if_neg (λq=>q c5),if_neg c6]
  rw[z,wOc,if_pos rfl];show PG _ _ _ _ _ _ _;rw[c5] at hM;generalize (mrg x.got [ownP ff x]).1=all at *;refine zAg func195 2 λhs=>?_;refine zP ?_;(refine at_g 200 ?_;refine zW ?_;refine callG_of [0,1] (qfD N ls T ff x o.length o ps path link f x.t.epoch) zU ?_;refine zV ?_);generalize ownP ff x=p at *;(refine zM [0,2,3,4] ?_;refine zI [U,U,U,U,U,U,U,U,U,U,U,U,U,U,U,U,V [],U,U,U,U,U,U,U,U,U,U,U,U,U] ?_);refine zS e2 ?_;(refine zF ?_;refine qaa (qcn x.t.epoch x.t.up x.t.wait x.t.kids x.t.epoch) zB ?_);refine zS (zQ c3 c4') ?_;refine zN [0,2,3] [U,U,U,U,U,U,V [0,1,2,3,4],V [],U,U,U,U,U] ?_;refine zX hM ?_;(refine zG ?_;refine qaa (qb0) zB ?_);refine zS c6 ?_;refine zN [0,2,5] [U,U,U,U,U,U,U,U,V [0,9,10,11,12],U,U,U,U,V []] ?_;refine zX (qfT N ls x.t.up hl) ?_;(refine qbI ?_;refine zW ?_;refine callG_of [0,1] (qcy N ls T ff ⟨x.h,x.m,x.u,x.t,x.got,x.heard,x.t.epoch,x.seen⟩ o.length o ps path link f rfl wa (qaE ls x.t.up) ⟨5,x.t.epoch,(0,0),all,0,0,0, []⟩) zU ?_);(try simp(maxSteps:=2000000) (disch:=omega) only[go_sem,simprocAttr,zD,zE,setTold,List.length_append,List.length_singleton])
end Go.Proofs.NO
