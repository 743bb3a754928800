/- A call under way: the node, what it sends; its small steps. -/
import Derived.Test.YtfhhdgkhajkapaaGreatNtA
import Derived.Test.YtfhhdgkhajkapaaGreatNMe
import Derived.Test.YtfhhdgkhajkapaaGreatNMd
set_option linter.all false
open True renaming intro->Ka
open Option renaming none->U,some->V
namespace Go.Proofs.NO
open Go Go.Idl Go.Proofs Go.GP Go.Proofs.Tryz
set_option maxHeartbeats 0
set_option maxRecDepth 100000
@[go_sem] abbrev wRow(N:Int)(ls:List (Int × Int))(T:List Nd)(ff:Bool)(x:No)(o:IV)(ps:List Pc)(path:List Int)(link:Int)(f:Fm):List IV:=
  [sci .i64 N,lII ls, .p (.imm 2 (pr eNd T)),scb ff,
  sci .i64 x.h.node,sci .i64 x.h.state,sci .i64 x.h.steps,lMs x.h.inn,lLs x.h.out,
  sci .i64 x.m.epoch,lBo x.m.opn,sci .i64 x.m.p.node,sci .i64 x.m.p.state,sci .i64 x.m.p.steps,lI x.m.p.sent,lMs x.m.p.inn,lLs x.m.p.out,
  sci .i64 x.u.epoch,sci .i64 x.u.p.node,sci .i64 x.u.p.state,sci .i64 x.u.p.steps,lI x.u.p.sent,lMs x.u.p.inn,lLs x.u.p.out,
  sci .i64 x.t.epoch,sci .i64 x.t.up,sci .i64 x.t.wait,lI x.t.kids,lPs x.got,sci .i64 x.heard,sci .i64 x.told,lI x.seen,
  o,lPs ps,lI path,sci .i64 link,
  sci .i64 f.kind,sci .i64 f.epoch,sci .i64 f.m.1,sci .i64 f.m.2,lPs f.ps,sci .i64 f.init,sci .i64 f.num,sci .i64 f.count,lI f.path]
@[go_sem] def lPs_nil:lPs []= .p (.imm 6 []):=rfl
@[go_sem] def lI_nil:lI []= .p (.imm 1 []):=rfl
@[go_sem] def lMs_nil:lMs []= .p (.imm 1 []):=rfl
@[go_sem] def lLs_nil:lLs []= .p (.imm 1 []):=rfl
def qfT(N:Int)(ls:List (Int × Int))(l:Int)(hl:ls.length<=1000000):Pure prog 252 [eG N ls,sci .i64 l] (sci .i64 (qaE ls l)):=by
 unfold qaE;refine zAb func252 λhs=>?_;by_cases h0:l < 0
 .rw[dif_neg wa];exact zU
 .obtain⟨l,rfl⟩:=Int.eq_ofNat_of_zero_le (show 0<=l by omega);by_cases h1:l < ls.length
  .refine zP ?_;(refine zM [1,2] ?_;refine zI [U,U,U,U,U,U,U,U,U,U,U,U,U,V [],U] ?_);(try simp(disch:=omega) only[go_sem,simprocAttr,zD,zE,eII]);(refine zF ?_;refine qaa (qdF _ _ _ _ wa) zB ?_);refine zP ?_;rw[dif_pos h1]
  .have: ¬(ls.length > l):=wa
   exact zy this
def qjv(N:Int)(ls:List (Int × Int))(T:List Nd)(ff:Bool)(x:No)(n:Nat)(o:List Ou)(ps:List Pc)(path:List Int)(link:Int)(f:Fm):
  PG prog 242 [.ptr 0 0 0 0] [.arr 45 0 [wRow N ls T ff x (.ref 1 n 0 n) ps path link f], .arr 10 n (ir eOu o)] 0 (sci .i64 (kindN ff)) []:=by
 cases ff
 .refine zAg func242 2 λhs=>?_;(try simp(maxSteps:=2000000) only[go_sem,simprocAttr,kindN])
 .refine zAg func242 2 λhs=>?_;(try simp(maxSteps:=2000000) only[go_sem,simprocAttr,kindN])
def qfF(N:Int)(ls:List (Int × Int))(T:List Nd)(ff:Bool)(x:No)(n:Nat)(o:List Ou)(ps:List Pc)(path:List Int)(link:Int)(f:Fm)(hl:ls.length<=1000000):
  PG prog 183 [.ptr 0 0 0 0] [.arr 45 0 [wRow N ls T ff x (.ref 1 n 0 n) ps path link f], .arr 10 n (ir eOu o)] 0 (sci .i64 (indexL link 0 (ins x.h.node 0 ls))) []:=by
 refine zAh func183 2 λhs=>?_;refine zN [0] [U,U,U,U,U,U,U,U,U,U,U,V [12,13,14,15],U,U,U,U,V [],U] ?_;refine zX (qdl N x.h.node ls hl) ?_;(refine zF ?_;refine qaa (qb3 _ _) zB ?_;exact zT)
def qgy(N:Int)(ls:List (Int × Int))(T:List Nd)(ff:Bool)(x:No)(n:Nat)(o:List Ou)(ps:List Pc)(path:List Int)(link:Int)(f:Fm)(hl:ls.length<=1000000):
  PG prog 193 [.ptr 0 0 0 0] [.arr 45 0 [wRow N ls T ff x (.ref 1 n 0 n) ps path link f], .arr 10 n (ir eOu o)] 0 (lI (outs x.h.node 0 ls)) []:=by
 refine zAh func193 2 λhs=>?_;refine zN [0] [U,U,U,U,U,U,U,U,U,U,U,V [],U] ?_;(refine zF ?_;refine qaa (qcU N x.h.node ls hl) zB ?_;exact zT)
def qf1(N:Int)(ls:List (Int × Int))(T:List Nd)(ff:Bool)(x:No)(n:Nat)(o:List Ou)(ps:List Pc)(path:List Int)(link:Int)(f:Fm)(hl:ls.length<=1000000):
  PG prog 245 [.ptr 0 0 0 0] [.arr 45 0 [wRow N ls T ff x (.ref 1 n 0 n) ps path link f], .arr 10 n (ir eOu o)] 0 (sci .i64 (qaE ls link)) []:=by
 refine zAh func245 2 λhs=>?_;refine zN [0] [U,U,U,U,U,U,U,U,U,V [],U] ?_;(refine zF ?_;refine qaa (qfT N ls link hl) zB ?_;exact zT)
def qcy(N:Int)(ls:List (Int × Int))(T:List Nd)(ff:Bool)(x:No)(n:Nat)(o:List Ou)(ps:List Pc)(path:List Int)(link:Int)(f:Fm)(ho:o.length=n)(hn:n<=1000)(l:Int)(g:Fm):
  PG prog 122 [.ptr 0 0 0 0,sci .i64 l,lFm g] [.arr 45 0 [wRow N ls T ff x (.ref 1 n 0 n) ps path link f], .arr 10 n (ir eOu o)] 0 (.tup [])
   [(0, .arr 45 0 [wRow N ls T ff x (.ref 1 (n+1) 0 (n+1)) ps path link f]),(1, .arr 10 (n+1) (ir eOu (o++ [⟨l,g⟩])))]:=by
 have hm:min n o.length=n:=wa
 have ht:o.take n=o:=List.take_of_length_le wa;refine zAh func122 2 λhs=>?_;(refine zM [0,1,5] ?_;refine zI [U,U,U,U,U,U,U,U,V [0,1,2,3,4],V [0],U,U,V []] ?_);(try simp(maxSteps:=2000000) (disch:=omega) only[go_sem,simprocAttr,zD,zE,hm,ht,ir_snoc,eOu]);exact ho
def qfD(N:Int)(ls:List (Int × Int))(T:List Nd)(ff:Bool)(x:No)(n:Nat)(o:List Ou)(ps:List Pc)(path:List Int)(link:Int)(f:Fm)(e:Int):
  PG prog 250 [.ptr 0 0 0 0,sci .i64 e] [.arr 45 0 [wRow N ls T ff x (.ref 1 n 0 n) ps path link f], .arr 10 n (ir eOu o)] 0 (.tup [lPc (ownP ff x),scb (tB (qdm ff x e))]) []:=by
 cases ff
 .have e1:tB (qdm false x e)=decide (e<=x.u.epoch):=by rw[<-qgL];rfl
  have e2:ownP false x=x.u.p:=rfl;rw[e1,e2];refine zAg func250 2 λhs=>?_;refine zP ?_;refine zN [0,1,4,75] [U,U,U,U,U,U,U,U,U,U,U,U,V [0,1,2,3,4,5],V [],U] ?_;(refine zF ?_;refine qaa (qok x.u e) zB ?_);exact zU
 .have e1:tB (qdm true x e)=tB (qgN x.m e):=rfl;have e2:ownP true x=x.m.p:=rfl;rw[e1,e2];refine zAg func250 2 λhs=>?_;refine zP ?_;refine zN [0,1,4,75] [U,U,U,U,U,U,U,U,U,U,U,U,V [0,1,2,3,4,5],V [],U] ?_;(refine zF ?_;refine qaa (qou x.m e) zB ?_);exact zU
end Go.Proofs.NO
