/- A node tells, if it can. -/
import Derived.Test.YtfhhdgkhajkapaaGreatNNe
import Derived.Test.YtfhhdgkhajkapaaGreatIdZo
set_option linter.all false
open Option renaming none->U,some->V
namespace Go.Proofs.NO
open Go Go.Idl Go.Proofs Go.GP Go.Proofs.Tryz
set_option maxHeartbeats 0
set_option maxRecDepth 100000
def nch(e:Int):List PanicEntry:= [{v:= .iface 320 (.agg #[.int .i64 e]),recovered:=false}]
def qce:Pure prog 240 [sci .i64 0] (.tup []):=by
 refine pcall0 200 (fn:=f240) func240 rfl (by simp[ntmps240]) zB zB λhs=>?_;((try refine zW ?_);(try with_reducible exact True.intro))
def qhE(e:Int)(h:e≠0):PX prog 240 [sci .i64 e] [] (nch e) (λW=>W= []):=by
 have h2:(e != 0)=true:=bne_iff_ne.2 h;refine px_of 200 (fn:=f240) func240 rfl (by simp[ntmps240]) 0 rfl zC zC λhs=>?_;(try simp only[go_sem,simprocAttr,h2]);refine qmx rfl rfl ?_;(refine endX_of [] ?_ ?_ ?_ ?_ ?_<;>first | exact rfl | decide | omega | exact zU)
def qay(e:Int):Pure prog 182 [scb true,sci .i64 e] (.tup []):=by
 refine pcall0 200 (fn:=f182) func182 rfl (by simp[ntmps182]) zB zB λhs=>?_;((try refine zW ?_);(try with_reducible exact True.intro))
def qcY(e:Int):PX prog 182 [scb false,sci .i64 e] [] (nch e) (λW=>W= []):=by
 refine px_of 200 (fn:=f182) func182 rfl (by simp[ntmps182]) 0 rfl zC zC λhs=>?_;refine zV ?_;refine qmx rfl rfl ?_;(refine endX_of [] ?_ ?_ ?_ ?_ ?_<;>first | exact rfl | decide | omega | exact zU)
def Wq(N:Int)(ls:List (Int × Int))(T:List Nd)(ff:Bool)(link:Int)(f:Fm)(pd:Td)(W:List (Nat × IBlk)):Prop:=
 W= [(0, .arr 45 0 [wRow N ls T ff pd.x (.ref 1 pd.out.length 0 pd.out.length) pd.ps pd.path link f]),(1, .arr 10 pd.out.length (ir eOu pd.out))]
def wOc(N:Int)(ls:List (Int × Int))(T:List Nd)(ff:Bool)(link:Int)(f:Fm)(d:Td):Oc:=
 if d.e=0 then .ok 0 (.tup []) [(0, .arr 45 0 [wRow N ls T ff d.x (.ref 1 d.out.length 0 d.out.length) d.ps d.path link f]),(1, .arr 10 d.out.length (ir eOu d.out))] else .pan
def qsq(N:Int)(ls:List (Int × Int))(T:List Nd)(ff:Bool)(x:No)(n:Nat)(o:List Ou)(ps:List Pc)(path:List Int)(link:Int)(f:Fm)(ho:o.length=n)(hn:n<=900)(hl:ls.length<=1000000)
  (hg1: ∀p∈x.got,gPc p) (hg2:gPc (ownP ff x)) (h30:x.got.length<=18):
  PB prog 195 [.ptr 0 0 0 0] [.arr 45 0 [wRow N ls T ff x (.ref 1 n 0 n) ps path link f], .arr 10 n (ir eOu o)] (nch (qak ls ff ⟨x,o,ps,path,0⟩).e) (Wq N ls T ff link f ⟨x,o,ps,path,0⟩) (wOc N ls T ff link f (qak ls ff ⟨x,o,ps,path,0⟩)):=by
 subst ho;by_cases hc:qbx ff x
 rotate_left
 .have z:qak ls ff ⟨x,o,ps,path,0⟩=⟨x,o,ps,path,0⟩:=wT
  rw[z,wOc,if_pos rfl];show PG _ _ _ _ _ _ _;refine pg_of 200 (fn:=f195) func195 rfl vU 2 rfl zC zC zC zC zC λhs=>?_;refine zP ?_;(refine at_g 200 ?_;refine zW ?_;refine callG_of [0,1] (qf7 N ls T ff x o.length o ps path link f x.t.epoch) zU ?_;refine zV ?_);by_cases c1:x.t.epoch<=x.told
  ·(refine zM [0,2,3,4] ?_;refine zI [U,U,U,U,U,U,U,U,U,U,U,U,U,U,U,U,V [],U,U,U,U,U,U,U,U,U,U,U,U,U] ?_);(try simp(maxSteps:=2000000) (disch:=omega) only[go_sem,simprocAttr,zD,zE,c1])
  by_cases c2:qb6 ff x x.t.epoch
  rotate_left
  .have e2:=qah c2;(refine zM [0,2,3,4] ?_;refine zI [U,U,U,U,U,U,U,U,U,U,U,U,U,U,U,U,V [],U,U,U,U,U,U,U,U,U,U,U,U,U] ?_);(try simp(maxSteps:=2000000) (disch:=omega) only[go_sem,simprocAttr,zD,zE,c1,e2])
  have e2:=qaj c2;by_cases c3:x.t.wait < 1
  rotate_left
  ·(refine zM [0,2,3,4] ?_;refine zI [U,U,U,U,U,U,U,U,U,U,U,U,U,U,U,U,V [],U,U,U,U,U,U,U,U,U,U,U,U,U] ?_);refine zS (zQ c1 e2) ?_;(refine zF ?_;refine qaa (qcy x.t.epoch x.t.up x.t.wait x.t.kids x.t.epoch) zB ?_);(try simp(maxSteps:=2000000) (disch:=omega) only[go_sem,simprocAttr,zD,zE,c3])
  have c4: ¬x.heard=x.t.kids.length:=λq=>hc ⟨wa,c2,c3,q⟩
  (refine zM [0,2,3,4] ?_;refine zI [U,U,U,U,U,U,U,U,U,U,U,U,U,U,U,U,V [],U,U,U,U,U,U,U,U,U,U,U,U,U] ?_);refine zS (zQ c1 e2) ?_;(refine zF ?_;refine qaa (qcy x.t.epoch x.t.up x.t.wait x.t.kids x.t.epoch) zB ?_);(try simp(maxSteps:=2000000) (disch:=omega) only[go_sem,simprocAttr,zD,zE,c3,c4])
 have hM:Pure prog 247 [lPs x.got, .p (.imm 6 [ePc (ownP ff x)])] (.tup [lPs (mrg x.got [ownP ff x]).1,sci .i64 (mrg x.got [ownP ff x]).2]):=
  qiD x.got [ownP ff x] hg1 (λp hp=>by rw[List.mem_singleton.1 hp];exact hg2) wj
 obtain⟨c1,c2,c3,c4⟩:=hc;have hc:qbx ff x:=⟨c1,c2,c3,c4⟩;have c4':(x.heard != (x.t.kids.length:Int))=false:=by simp[c4]
 have e2:=qaj c2;by_cases c5:(mrg x.got [ownP ff x]).2=0
 rotate_left
 .have z:qak ls ff ⟨x,o,ps,path,0⟩=errT (mrg x.got [ownP ff x]).2:=by unfold qak;rw[if_pos hc,if_pos c5]
  rw[z,wOc,if_neg (show ¬(errT (mrg x.got [ownP ff x]).2).e=0 from c5)];show PX _ _ _ _ _ _;refine px_of 200 (fn:=f195) func195 rfl vU 2 rfl zC zC λhs=>?_;refine zP ?_;(refine at_g 200 ?_;refine zW ?_;refine callG_of [0,1] (qf7 N ls T ff x o.length o ps path link f x.t.epoch) zU ?_;refine zV ?_);generalize ownP ff x=p at *;(refine zM [0,2,3,4] ?_;refine zI [U,U,U,U,U,U,U,U,U,U,U,U,U,U,U,U,V [],U,U,U,U,U,U,U,U,U,U,U,U,U] ?_);refine zS e2 ?_;(refine zF ?_;refine qaa (qcy x.t.epoch x.t.up x.t.wait x.t.kids x.t.epoch) zB ?_);refine zS (zQ c3 c4') ?_;refine zN [0,2,3] [U,U,U,U,U,U,V [0,1,2,3,4],V [],U,U,U,U,U] ?_;refine zX hM ?_;(refine at_x ?_;refine zW ?_;refine qaA [] (qhE _ c5) zU ?_);rintro W rfl;(refine endX_of [(0, .arr 45 0 [wRow N ls T ff x (.ref 1 o.length 0 o.length) ps path link f]),(1, .arr 10 o.length (ir eOu o))] ?_ ?_ ?_ ?_ ?_<;>first | exact rfl | decide | omega | exact zU)
 by_cases c6:x.t.up < 0
 .have z:qak ls ff ⟨x,o,ps,path,0⟩=⟨setTold x x.t.epoch,o,(mrg x.got [ownP ff x]).1,path,0⟩:=by unfold qak;rw[if_pos hc,if_neg (λq=>q c5),if_pos c6]
  rw[z,wOc,if_pos rfl];show PG _ _ _ _ _ _ _;rw[c5] at hM;generalize (mrg x.got [ownP ff x]).1=all at *;refine pg_of 200 (fn:=f195) func195 rfl vU 2 rfl zC zC zC zC zC λhs=>?_;refine zP ?_;(refine at_g 200 ?_;refine zW ?_;refine callG_of [0,1] (qf7 N ls T ff x o.length o ps path link f x.t.epoch) zU ?_;refine zV ?_);generalize ownP ff x=p at *;(refine zM [0,2,3,4] ?_;refine zI [U,U,U,U,U,U,U,U,U,U,U,U,U,U,U,U,V [],U,U,U,U,U,U,U,U,U,U,U,U,U] ?_);refine zS e2 ?_;(refine zF ?_;refine qaa (qcy x.t.epoch x.t.up x.t.wait x.t.kids x.t.epoch) zB ?_);refine zS (zQ c3 c4') ?_;refine zN [0,2,3] [U,U,U,U,U,U,V [0,1,2,3,4],V [],U,U,U,U,U] ?_;refine zX hM ?_;(refine zG ?_;refine qaa (qce) zB ?_);(try simp(maxSteps:=2000000) (disch:=omega) only[go_sem,simprocAttr,zD,zE,c6,setTold])
 .have z:qak ls ff ⟨x,o,ps,path,0⟩=⟨setTold x x.t.epoch,o++ [⟨backL ls x.t.up,⟨5,x.t.epoch,(0,0),(mrg x.got [ownP ff x]).1,0,0,0, []⟩⟩],ps,path,0⟩:=by
   unfold qak;rw[if_pos hc,if_neg (λq=>q c5),if_neg c6]
  rw[z,wOc,if_pos rfl];show PG _ _ _ _ _ _ _;rw[c5] at hM;generalize (mrg x.got [ownP ff x]).1=all at *;refine pg_of 200 (fn:=f195) func195 rfl vU 2 rfl zC zC zC zC zC λhs=>?_;refine zP ?_;(refine at_g 200 ?_;refine zW ?_;refine callG_of [0,1] (qf7 N ls T ff x o.length o ps path link f x.t.epoch) zU ?_;refine zV ?_);generalize ownP ff x=p at *;(refine zM [0,2,3,4] ?_;refine zI [U,U,U,U,U,U,U,U,U,U,U,U,U,U,U,U,V [],U,U,U,U,U,U,U,U,U,U,U,U,U] ?_);refine zS e2 ?_;(refine zF ?_;refine qaa (qcy x.t.epoch x.t.up x.t.wait x.t.kids x.t.epoch) zB ?_);refine zS (zQ c3 c4') ?_;refine zN [0,2,3] [U,U,U,U,U,U,V [0,1,2,3,4],V [],U,U,U,U,U] ?_;refine zX hM ?_;(refine zG ?_;refine qaa (qce) zB ?_);refine zS c6 ?_;refine zN [0,2,5] [U,U,U,U,U,U,U,U,V [0,9,10,11,12],U,U,U,U,V []] ?_;refine zX (qgq N ls x.t.up hl) ?_;(refine qbd ?_;refine zW ?_;refine callG_of [0,1] (qcI N ls T ff ⟨x.h,x.m,x.u,x.t,x.got,x.heard,x.t.epoch,x.seen⟩ o.length o ps path link f rfl wa (backL ls x.t.up) ⟨5,x.t.epoch,(0,0),all,0,0,0, []⟩) zU ?_);(try simp(maxSteps:=2000000) (disch:=omega) only[go_sem,simprocAttr,zD,zE,setTold,List.length_append,List.length_singleton])
end Go.Proofs.NO
