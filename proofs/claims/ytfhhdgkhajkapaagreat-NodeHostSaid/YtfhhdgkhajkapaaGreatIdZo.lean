/- Facts leant on. -/
import Derived.Test.YtfhhdgkhajkapaaGreatNPK
import Derived.Test.YtfhhdgkhajkapaaGreatNMe
import Derived.Test.YtfhhdgkhajkapaaGreatNPS
import Derived.Test.YtfhhdgkhajkapaaGreatNMd
import Derived.Test.YtfhhdgkhajkapaaGreatIdRb
import Derived.Test.YtfhhdgkhajkapaaGreatIdRc
import Derived.Test.YtfhhdgkhajkapaaGreatIdNl
set_option linter.all false
open Nat renaming beq->Ka,eq_of_beq_eq_true->Kb,blt->Kc,ble->Kd,le_of_ble_eq_true->Ke,lt_of_succ_le->Kf
open Bool renaming and_eq_true->Kg,false_eq_true->Kh,or_eq_true->Ki
open List renaming replicate->Kj,eq_nil_of_length_eq_zero->Kk,nodup_iff_pairwise_ne->Kl,pairwise_map->Km,getElem?_eq_getElem->Kn,isEmpty_iff->Ko,mem_cons_of_mem->Kp,getLast?_eq_some_getLast->Kq,dropLast_concat_getLast->Kr
open True renaming intro->Ks
open Int renaming natCast_zero->Kt,natCast_add->Ku,natCast_one->Kv
open Array renaming replicate->Kw
open Option renaming none->U,some->V
open Bool renaming true->Y,false->Z
/- Pieces merged. -/
namespace Go.Proofs.NO
open Go Go.Idl Go.Proofs Go.GN Go.Proofs.Tryz
set_option maxHeartbeats 0
set_option maxRecDepth 100000
def mrg(a b:List Pc):List Pc × Int:=match qg2 Pc.node a b with
 | some s=>(s,0)
 | none=>([],4)
def qqZ{a b s:List Pc}(hs:s=qcI (a++b)){k:Nat}(h:k+1 < s.length)(e:s[k].node=s[k+1].node):mrg a b=([],4):=by
 unfold mrg;cases hm:qg2 Pc.node a b with
 | none=>rfl
 | some t=>
   exfalso;obtain⟨p,r⟩:=(qfA Pc.node).1 hm;have nd:(t.map Pc.node).Nodup:=by
    rw[Kl,Km];exact r.imp λh=>by omega
   have ps:s.Perm (a++b):=by rw[hs];exact qel _
   have nd2:(s.map Pc.node).Nodup:=((p.trans ps.symm).map Pc.node).nodup_iff.1 nd;rw[Kl,Km] at nd2;exact List.pairwise_iff_getElem.1 nd2 k (k+1) wa h wa e
def qqk: ∀ {s:List Pc},(∀k (h:k+1 < s.length),s[k].node≠s[k+1].node)->qeB Pc.node s=Z
 | [],_=>rfl
 | [_],_=>rfl
 | x::y::r,h=>by
   unfold qeB;rw[Bool.or_eq_false_iff,decide_eq_false_iff_not];exact⟨h 0 wb,qqk λk hk=>h (k+1) (by simpa using hk)⟩
def qoz{a b s:List Pc}(hs:s=qcI (a++b))(h: ∀k (h:k+1 < s.length),s[k].node≠s[k+1].node):mrg a b=(s,0):=by
 have:qg2 Pc.node a b=V s:=by
  refine(qfA Pc.node).2 ⟨by rw[hs];exact qel _,?_⟩;exact qei Pc.node (by rw[hs];exact qoU _) (qqk h)
 unfold mrg;rw[this]
def qhS(a b:List Pc)(ha: ∀p∈a,gPc p)(hb: ∀p∈b,gPc p)(hn:a.length+b.length < 20):
  Pure prog 247 [lPs a,lPs b] (.tup [lPs (mrg a b).1,sci .i64 (mrg a b).2]):=by
 obtain⟨s,hs⟩: ∃s,s=qcI (a++b):=⟨_,rfl⟩;have same:= @qqZ a b s hs;have unl:= @qoz a b s hs;have hl:s.length=(a++b).length:=by rw[hs];exact(qel _).length_eq
 have hab:(a++b).length=a.length+b.length:=List.length_append;have sp:=λg=>qqh g (a++b) wa
 rw[<-hs] at sp;clear hs;generalize hr:mrg a b=res at *;refine zAb func247 λhs=>?_;(refine zG ?_;refine qaa (qjX a ha wa) zB ?_);refine zV ?_;(refine zG ?_;refine qaa (qjX b hb wa) zB ?_);refine zV ?_;rcases Nat.eq_zero_or_pos (a.length+b.length) with h0 | h0
 .have ea:a= []:=Kk wa;have eb:b= []:=Kk wa;subst ea eb;have es:s= []:=Kk (by rw[hl];rfl);subst es;have er:res=([],0):=unl (λk h=>by simp at h);subst er;have sp0:=sp 1;simp only[List.append_nil,List.length_nil] at sp0;refine zJ [] qkp ?_;(refine at_g 200 ?_;refine zW ?_;refine callG_of [0] (sp0) wo ?_);refine zP ?_;refine zM [6,17,18,19] ?_;refine qac 200 200 (λi:Nat=>i=0) (λi=>⟨39, [(6, .ref 0 1 0 0),(17, .ref 0 1 0 0),(18,sci .i64 0),(19,sci .i64 0)], [],1, [(0,pB 1 [])]⟩) (λi=>i) 0 [] rfl ?_ ?_
  .constructor<;>exact zU
  .rintro i rfl;exact zU
 ·(refine at_g 200 ?_;refine zW ?_;refine callG_of [] (qmm a b wa wa) zU ?_);refine zP ?_;(refine at_g 200 ?_;refine zW ?_;refine callG_of [0] (sp 2) wo ?_);refine zP ?_;refine zM [6,17,18,19] ?_;refine qac 200 200 (λi:Nat=>i<=s.length/\ ∀k (h:k+1 < s.length),k+1 < i->s[k].node≠s[k+1].node)
   (λi=>⟨39, [(6, .ref 0 2 0 s.length),(17, .ref 0 2 0 s.length),(18,sci .i64 (s.length:Int)),(19,sci .i64 (i:Int))], [],1, [(0,pB 2 s)]⟩) (λi=>s.length - i) 0 [] ⟨Nat.zero_le _,λk h h2=>by omega⟩ ?_ ?_
  .constructor<;>(try simp(maxSteps:=2000000) (disch:=omega) only[go_sem,simprocAttr,if_pos,if_neg,w64,beqT,beqF,bneT,bneF,qai,qag,decide_eq_true,decide_eq_false,Kt,hl,hab,Ku])
  .rintro i ⟨hi,hk⟩;refine zV ?_;by_cases li:i < s.length
   .have gi:(ir ePc s)[i]? =V ((ePc s[i]).map .p):=qiX (Kn li);cases i with
    | zero=>
      (try simp(maxSteps:=2000000) (disch:=omega) only[go_sem,simprocAttr,if_pos,if_neg,w64,beqT,beqF,bneT,bneF,qai,qag,decide_eq_true,decide_eq_false,gi,ePc,Kt]);(refine zM [6,7,8,17,18,19] ?_;refine zI [U,U,U,U,U,U,U,U,U,U,U,U,U] ?_);(try simp(maxSteps:=2000000) (disch:=omega) only[go_sem,simprocAttr,if_pos,if_neg,w64,beqT,beqF,bneT,bneF,qai,qag,decide_eq_true,decide_eq_false,ePc,Kt]);refine⟨1, [1],⟨wa,λk h h2=>by omega⟩,wa,?_⟩;constructor<;>(try simp(maxSteps:=2000000) (disch:=omega) only[go_sem,simprocAttr,if_pos,if_neg,w64,beqT,beqF,bneT,bneF,qai,qag,decide_eq_true,decide_eq_false,Kv])
    | succ i=>
      have li2:i < s.length:=wa
      have gi2:(ir ePc s)[i]? =V ((ePc s[i]).map .p):=qiX (Kn li2);have tn:((i:Int)+1).toNat=i+1:=rfl;(try simp(maxSteps:=2000000) (disch:=omega) only[go_sem,simprocAttr,if_pos,if_neg,w64,beqT,beqF,bneT,bneF,qai,qag,decide_eq_true,decide_eq_false,gi,ePc,tn]);(refine zM [6,7,8,17,18,19] ?_;refine zI [U,U,U,U,U,U,U,U,U,U,U,U,U] ?_);(try simp(maxSteps:=2000000) (disch:=omega) only[go_sem,simprocAttr,if_pos,if_neg,w64,beqT,beqF,bneT,bneF,qai,qag,decide_eq_true,decide_eq_false,gi2,ePc,Int.add_sub_cancel,tn]);by_cases hc:s[i+1].node=s[i].node
      .have er:=same (k:=i) li hc.symm;subst er;(try simp(maxSteps:=2000000) (disch:=omega) only[go_sem,simprocAttr,if_pos,if_neg,w64,beqT,beqF,bneT,bneF,qai,qag,decide_eq_true,decide_eq_false,hc])
      .have hc2:(s[i+1].node==s[i].node)=Z:=wS
       (try simp(maxSteps:=2000000) (disch:=omega) only[go_sem,simprocAttr,if_pos,if_neg,w64,beqT,beqF,bneT,bneF,qai,qag,decide_eq_true,decide_eq_false,hc2]);refine⟨i+1+1, [1],⟨wa,λk h h2=>?_⟩,wa,?_⟩
       .by_cases e:k=i
        .subst e;exact λq=>hc q.symm
        .exact hk k h wa
       .constructor<;>(try simp(maxSteps:=2000000) (disch:=omega) only[go_sem,simprocAttr,if_pos,if_neg,w64,beqT,beqF,bneT,bneF,qai,qag,decide_eq_true,decide_eq_false,Ku,Kv])
        all_goals omega
   .have er:=unl λk h=>hk k h wa
    subst er;exact zU
end Go.Proofs.NO
namespace Go.Proofs.NO
open Go Go.Idl Go.Proofs Go.GP Go.Proofs.Tryz
structure Mk where
 epoch:Int
 opn:List Bool
 p:Pc
structure Hu where
 epoch:Int
 p:Pc
structure Tr where
 epoch:Int
 up:Int
 wait:Int
 kids:List Int
structure Fm where
 kind:Int
 epoch:Int
 m:Int × Int
 ps:List Pc
 init:Int
 num:Int
 count:Int
 path:List Int
structure No where
 h:Hs
 m:Mk
 u:Hu
 t:Tr
 got:List Pc
 heard:Int
 told:Int
 seen:List Int
structure Ou where
 link:Int
 f:Fm
structure Td where
 x:No
 out:List Ou
 ps:List Pc
 path:List Int
 e:Int
def zMk:Mk:=⟨0, [],zPc⟩
def zHu:Hu:=⟨0,zPc⟩
def zTr:Tr:=⟨0,0,0, []⟩
def zNo:No:=⟨zHs,zMk,zHu,zTr, [],0,0, []⟩
def errT(e:Int):Td:=⟨zNo, [], [], [],e⟩
def newN(h:Hs):No:=⟨h,zMk,zHu,zTr, [],0,0, []⟩
abbrev lBo(l:List Bool):IV:= .p (.imm 1 (pr eB l))
def eFm(f:Fm):List PV:= [.sc (.int .i64 f.kind), .sc (.int .i64 f.epoch), .sc (.int .i64 f.m.1), .sc (.int .i64 f.m.2), .imm 6 (pr ePc f.ps), .sc (.int .i64 f.init), .sc (.int .i64 f.num), .sc (.int .i64 f.count), .imm 1 (pr eI f.path)]
def eOu(o:Ou):List PV:= [.sc (.int .i64 o.link), .sc (.int .i64 o.f.kind), .sc (.int .i64 o.f.epoch), .sc (.int .i64 o.f.m.1), .sc (.int .i64 o.f.m.2), .imm 6 (pr ePc o.f.ps), .sc (.int .i64 o.f.init), .sc (.int .i64 o.f.num), .sc (.int .i64 o.f.count), .imm 1 (pr eI o.f.path)]
abbrev lFm(f:Fm):IV:= .agg [sci .i64 f.kind,sci .i64 f.epoch,sci .i64 f.m.1,sci .i64 f.m.2,lPs f.ps,sci .i64 f.init,sci .i64 f.num,sci .i64 f.count,lI f.path]
abbrev lOus(l:List Ou):IV:= .p (.imm 10 (pr eOu l))
abbrev lMk(m:Mk):IV:= .agg [sci .i64 m.epoch,lBo m.opn,sci .i64 m.p.node,sci .i64 m.p.state,sci .i64 m.p.steps,lI m.p.sent,lMs m.p.inn,lLs m.p.out]
abbrev lHu(u:Hu):IV:= .agg [sci .i64 u.epoch,sci .i64 u.p.node,sci .i64 u.p.state,sci .i64 u.p.steps,lI u.p.sent,lMs u.p.inn,lLs u.p.out]
abbrev lTr(t:Tr):IV:= .agg [sci .i64 t.epoch,sci .i64 t.up,sci .i64 t.wait,lI t.kids]
abbrev cNo(x:No):List IV:= [sci .i64 x.h.node,sci .i64 x.h.state,sci .i64 x.h.steps,lMs x.h.inn,lLs x.h.out,
 sci .i64 x.m.epoch,lBo x.m.opn,sci .i64 x.m.p.node,sci .i64 x.m.p.state,sci .i64 x.m.p.steps,lI x.m.p.sent,lMs x.m.p.inn,lLs x.m.p.out,
 sci .i64 x.u.epoch,sci .i64 x.u.p.node,sci .i64 x.u.p.state,sci .i64 x.u.p.steps,lI x.u.p.sent,lMs x.u.p.inn,lLs x.u.p.out,
 sci .i64 x.t.epoch,sci .i64 x.t.up,sci .i64 x.t.wait,lI x.t.kids,lPs x.got,sci .i64 x.heard,sci .i64 x.told,lI x.seen]
abbrev lNo(x:No):IV:= .agg [sci .i64 x.h.node,sci .i64 x.h.state,sci .i64 x.h.steps,lMs x.h.inn,lLs x.h.out,
 sci .i64 x.m.epoch,lBo x.m.opn,sci .i64 x.m.p.node,sci .i64 x.m.p.state,sci .i64 x.m.p.steps,lI x.m.p.sent,lMs x.m.p.inn,lLs x.m.p.out,
 sci .i64 x.u.epoch,sci .i64 x.u.p.node,sci .i64 x.u.p.state,sci .i64 x.u.p.steps,lI x.u.p.sent,lMs x.u.p.inn,lLs x.u.p.out,
 sci .i64 x.t.epoch,sci .i64 x.t.up,sci .i64 x.t.wait,lI x.t.kids,lPs x.got,sci .i64 x.heard,sci .i64 x.told,lI x.seen]
def qa8(h:Hs)(e:Int):Mk:=⟨e,Kj h.inn.length Y,pcF h⟩
def qaZ(m:Mk)(h:Hs)(e a:Int):Mk × Bool:=
 if a < 0\/(h.inn.length:Int)<=a then(m,Z)
 else if m.epoch=e then(⟨m.epoch,m.opn.set a.toNat Z,m.p⟩,Z)
 else(⟨e,(Kj h.inn.length Y).set a.toNat Z,pcF h⟩,Y)
def appM(m:Mk)(a:Int)(x:Int × Int):Mk:=
 if a < 0\/(m.opn.length:Int)<=a\/m.opn[a.toNat]? ≠V Y then m
 else⟨m.epoch,m.opn,⟨m.p.node,m.p.state,m.p.steps,m.p.sent,m.p.inn.set a.toNat ((m.p.inn[a.toNat]?).getD []++ [x]),m.p.out⟩⟩
def qgN(m:Mk)(e:Int):Prop:=m.epoch=e/\Y ∉ m.opn
def qaW(u:Hu)(h:Hs)(e:Int):Hu × Bool:=if e<=u.epoch then(u,Z) else(⟨e,pcL h⟩,Y)
def qgB(e o:Int):Tr:=⟨e, -1,if o < 0 then 0 else o, []⟩
def qcs(t:Tr)(e l o:Int):Tr × Bool:=if t.epoch=e then(t,Z) else(⟨e,l,if o < 0 then 0 else o, []⟩,Y)
def replyT(t:Tr)(e l:Int)(y:Bool):Tr × Int:=if t.epoch≠e\/t.wait < 1 then(zTr,1) else(⟨t.epoch,t.up,t.wait - 1,if y then t.kids++ [l] else t.kids⟩,0)
def qdy(f:Fm):Prop:=f.init=0/\f.num=0/\f.count=0/\f.path= []
def qbm(f:Fm):Prop:=f.epoch=0/\f.m=(0,0)/\f.ps= []/\(0<=f.init/\f.init<=5)/\(1<=f.num/\f.num<=200)/\(0<=f.count/\f.count<=500)/\(1<=f.path.length/\f.path.length<=6)/\ ∀x∈f.path,0<=x/\x<=5
def CtlF(f:Fm):Prop:=qdy f/\(1<=f.epoch/\f.epoch<=200)/\f.m=(0,0)
def FrP(f:Fm):Prop:=(f.kind=6/\qbm f)\/(f.kind=0/\qdy f/\(0<=f.epoch/\f.epoch<=200)/\f.ps= []/\(1<=f.m.1/\f.m.1<=500)/\0<=f.m.2/\f.m.2<=3)\/
 ((1<=f.kind/\f.kind<=4)/\CtlF f/\f.ps= [])\/(f.kind=5/\CtlF f/\(1<=f.ps.length/\f.ps.length<=6)/\ ∀p∈f.ps,qaA p)
def ctl(k e:Int):Fm:=⟨k,e,(0,0), [],0,0,0, []⟩
def stOf(T:List Nd)(h:Hs):St:=((((T[h.node.toNat]?).getD ⟨0, []⟩).states)[h.state.toNat]?).getD ⟨0, [], [], []⟩
def sendsP(ls:List (Int × Int))(st:St)(h:Hs)(i num:Int)(p:List Int):List Ou:=
 st.waits.map λw=>⟨qay h.node w 0 ls,⟨6,0,(0,0), [],i,num,lenAt h.inn (indexL (qay w h.node 0 ls) 0 (ins h.node 0 ls)),p++ [h.node]⟩⟩
def hearP(ls:List (Int × Int))(st:St)(h:Hs)(seen:List Int)(link:Int)(f:Fm):List Int × List Ou × List Int:=
 if link ∉ ins h.node 0 ls\/st.mode≠2\/lenAt h.out (indexL (qaE ls link) 0 (outs h.node 0 ls))≠f.count then(seen, [], [])
 else if f.init=h.node then(seen, [],f.path)
 else if f.num<=(seen[f.init.toNat]?).getD 0 then(seen, [], [])
 else((seen++Kj (f.init.toNat+1 - seen.length) 0).set f.init.toNat f.num,sendsP ls st h f.init f.num f.path, [])
def kindN(ff:Bool):Int:=if ff then 1 else 2
def floodN(ls:List (Int × Int))(ff:Bool)(t:Td)(e:Int):Td:=
 ⟨⟨t.x.h,t.x.m,t.x.u,t.x.t, [],0,t.x.told,t.x.seen⟩,t.out++(outs t.x.h.node 0 ls).map (λl=>⟨l,ctl (kindN ff) e⟩),t.ps,t.path,t.e⟩
def qdm(ff:Bool)(x:No)(e:Int):Prop:=if ff then qgN x.m e else e<=x.u.epoch
def qiO(ff:Bool)(x:No):Prop:=x.told < x.t.epoch/\qdm ff x x.t.epoch/\x.t.wait < 1/\x.heard=x.t.kids.length
def ownP(ff:Bool)(x:No):Pc:=if ff then x.m.p else x.u.p
def setTold(x:No)(e:Int):No:=⟨x.h,x.m,x.u,x.t,x.got,x.heard,e,x.seen⟩
open Classical in
noncomputable def qaz(ls:List (Int × Int))(ff:Bool)(t:Td):Td:=
 if qiO ff t.x then
  if(mrg t.x.got [ownP ff t.x]).2≠0 then errT (mrg t.x.got [ownP ff t.x]).2
  else if t.x.t.up < 0 then⟨setTold t.x t.x.t.epoch,t.out,(mrg t.x.got [ownP ff t.x]).1,t.path,0⟩
  else⟨setTold t.x t.x.t.epoch,t.out++ [⟨qaE ls t.x.t.up,⟨5,t.x.t.epoch,(0,0),(mrg t.x.got [ownP ff t.x]).1,0,0,0, []⟩⟩],t.ps,t.path,0⟩
 else t
noncomputable def startN(ls:List (Int × Int))(ff:Bool)(x:No)(e:Int):Td:=
 if e < 1\/200 < e\/e<=x.m.epoch\/e<=x.u.epoch\/e<=x.t.epoch then errT 1
 else qaz ls ff (floodN ls ff ⟨⟨x.h,if ff then qa8 x.h e else x.m,if ff then x.u else(qaW x.u x.h e).1,qgB e (outs x.h.node 0 ls).length,x.got,x.heard,x.told,x.seen⟩, [], [], [],0⟩ e)
noncomputable def appN(ls:List (Int × Int))(ff:Bool)(st:St)(x:No)(link:Int)(f:Fm):Td:=
 if(takeH ls st x.h link f.m).2≠0 then errT (takeH ls st x.h link f.m).2
 else⟨⟨(takeH ls st x.h link f.m).1,if ff then appM x.m (indexL link 0 (ins x.h.node 0 ls)) f.m else x.m,if ff then x.u else(qaW x.u x.h f.epoch).1,x.t,x.got,x.heard,x.told,x.seen⟩, [], [], [],0⟩
noncomputable def floodedN(ls:List (Int × Int))(ff:Bool)(x:No)(link:Int)(f:Fm):Td:=
 if f.kind≠kindN ff then errT 9
 else if f.epoch < x.t.epoch then errT 1
 else if x.t.epoch=f.epoch then qaz ls ff ⟨⟨x.h,if ff then(qaZ x.m x.h f.epoch (indexL link 0 (ins x.h.node 0 ls))).1 else x.m,if ff then x.u else(qaW x.u x.h f.epoch).1,x.t,x.got,x.heard,x.told,x.seen⟩, [⟨qaE ls link,ctl 4 f.epoch⟩], [], [],0⟩
 else qaz ls ff (floodN ls ff ⟨⟨x.h,if ff then(qaZ x.m x.h f.epoch (indexL link 0 (ins x.h.node 0 ls))).1 else x.m,if ff then x.u else(qaW x.u x.h f.epoch).1,(qcs x.t f.epoch link (outs x.h.node 0 ls).length).1,x.got,x.heard,x.told,x.seen⟩, [⟨qaE ls link,ctl 3 f.epoch⟩], [], [],0⟩ f.epoch)
noncomputable def repliedN(ls:List (Int × Int))(ff:Bool)(x:No)(link:Int)(f:Fm):Td:=
 if(replyT x.t f.epoch (qaE ls link) (f.kind==3)).2≠0 then errT (replyT x.t f.epoch (qaE ls link) (f.kind==3)).2
 else qaz ls ff ⟨⟨x.h,x.m,x.u,(replyT x.t f.epoch (qaE ls link) (f.kind==3)).1,x.got,x.heard,x.told,x.seen⟩, [], [], [],0⟩
noncomputable def reportedN(ls:List (Int × Int))(ff:Bool)(x:No)(link:Int)(f:Fm):Td:=
 if f.epoch≠x.t.epoch\/x.told=f.epoch\/qaE ls link ∉ x.t.kids then errT 1
 else if(mrg x.got f.ps).2≠0 then errT (mrg x.got f.ps).2
 else qaz ls ff ⟨⟨x.h,x.m,x.u,x.t,(mrg x.got f.ps).1,x.heard+1,x.told,x.seen⟩, [], [], [],0⟩
def probedN(ls:List (Int × Int))(st:St)(x:No)(link:Int)(f:Fm):Td:=
 ⟨⟨x.h,x.m,x.u,x.t,x.got,x.heard,x.told,(hearP ls st x.h x.seen link f).1⟩,(hearP ls st x.h x.seen link f).2.1, [],(hearP ls st x.h x.seen link f).2.2,0⟩
open Classical in
noncomputable def hearN(ls:List (Int × Int))(ff:Bool)(st:St)(x:No)(link:Int)(f:Fm):Td:=
 if indexL link 0 (ins x.h.node 0 ls) < 0\/ ¬FrP f then errT 1
 else if f.kind=0 then appN ls ff st x link f
 else if f.kind=1\/f.kind=2 then floodedN ls ff x link f
 else if f.kind=3\/f.kind=4 then repliedN ls ff x link f
 else if f.kind=5 then reportedN ls ff x link f
 else probedN ls st x link f
def pickN(ls:List (Int × Int))(ff:Bool)(st:St)(x:No)(k:Int):Td:=
 if(pickH ls st x.h k).2.2≠0 then errT (pickH ls st x.h k).2.2
 else⟨⟨(pickH ls st x.h k).1,x.m,x.u,x.t,x.got,x.heard,x.told,x.seen⟩,(pickH ls st x.h k).2.1.map (λs=>⟨s.1,⟨0,if ff then 0 else x.u.epoch,(s.2.1,s.2.2), [],0,0,0, []⟩⟩), [], [],0⟩
end Go.Proofs.NO
namespace Go.Idl
variable{P:Program}{h0:IH}
def valB:Value->Value->Bool
 | .int k a, .int c b=>decide (k=c) && decide (a=b)
 | .bool a, .bool b=>a==b
 | .float k a, .float c b=>decide (k=c) && Ka a b
 | .slice U 0 0, .slice U 0 0=>Y
 | .pointer U, .pointer U=>Y
 | .nilIface, .nilIface=>Y
 | _,_=>Z
def qi7{a b}(h:valB a b=Y):a=b:=by
 unfold valB at h;split at h<;>simp_all
mutual
def pvB:PV->PV->Bool
 | .sc a, .sc b=>valB a b
 | .emp, .emp=>Y
 | .imm s r, .imm s' r'=>Ka s s' && qiv r r'
 | .rp a, .rp b=>pvsB a b
 | _,_=>Z
def pvsB:List PV->List PV->Bool
 | [], []=>Y
 | x::r,y::s=>pvB x y && pvsB r s
 | _,_=>Z
def qiv:List (List PV)->List (List PV)->Bool
 | [], []=>Y
 | x::r,y::s=>pvsB x y && qiv r s
 | _,_=>Z
end
def pvB_eq(x): ∀y,pvB x y=Y->x=y:=by
 apply PV.rec (motive_1:=λx=> ∀y,pvB x y=Y->x=y) (motive_2:=λl=> ∀k,qiv l k=Y->l=k) (motive_3:=λl=> ∀k,pvsB l k=Y->l=k)
 .intro v y h;cases y<;>simp[pvB,Kh] at h;rw[qi7 h]
 .grind[pvB]
 .intro s r i y h;cases y<;>simp only[pvB,Kh,Kg] at h;rw[Kb h.1,i _ h.2]
 .intro r i y h;cases y<;>simp[pvB,Kh] at h;grind
 .simp_all[pvB]
 .grind[qiv]
 .intro a l b c k h;cases k<;>simp[qiv,Kh] at h;grind
 .grind[pvsB]
 .intro a l b c k h;cases k<;>simp[pvsB,Kh] at h;grind
mutual
def ivB:IV->IV->Bool
 | .p a, .p b=>pvB a b
 | .ref b g o l, .ref b' g' o' l'=>Ka b b' && (Ka g g' && (Ka o o' && Ka l l'))
 | .ptr b g o l, .ptr b' g' o' l'=>Ka b b' && (Ka g g' && (Ka o o' && Ka l l'))
 | .mp b, .mp b'=>Ka b b'
 | .agg a, .agg b=>ivsB a b
 | .tup a, .tup b=>ivsB a b
 | .dead, .dead=>Y
 | _,_=>Z
def ivsB:List IV->List IV->Bool
 | [], []=>Y
 | x::r,y::s=>ivB x y && ivsB r s
 | _,_=>Z
end
def qgp(x:IV): ∀y,ivB x y=Y->x=y:=by
 apply IV.rec (motive_1:=λx=> ∀y,ivB x y=Y->x=y) (motive_2:=λl=> ∀k,ivsB l k=Y->l=k)
 .intro v y h;cases y<;>simp only[ivB,Kh] at h;rw[pvB_eq _ _ h]
 .intro b g o l y h;cases y<;>simp only[ivB,Kh,Kg] at h
  simp_all
 .intro b g o l y h;cases y<;>simp only[ivB,Kh,Kg] at h
  simp_all
 .intro b y h;cases y<;>simp only[ivB,Kh] at h;rw[Kb h]
 .intro f a c d e y h;cases y<;>simp only[ivB,Kh] at h
 .intro c i y h;cases y<;>simp only[ivB,Kh] at h;rw[i _ h]
 .intro c i y h;cases y<;>simp only[ivB,Kh] at h;rw[i _ h]
 .intro y h;cases y<;>simp only[ivB,Kh] at h;rfl
 .intro k h;cases k<;>simp only[ivsB,Kh] at h;rfl
 .intro a l d e k h;cases k<;>simp only[ivsB,Kh,Kg] at h;rw[d _ h.1,e _ h.2]
def qgW:List (List IV)->List (List IV)->Bool
 | [], []=>Y
 | x::r,y::s=>ivsB x y && qgW r s
 | _,_=>Z
def qnn: ∀ {x y},ivsB x y=Y->x=y
 | [], [],_=>rfl
 | a::r,b::s,h=>by simp[ivsB] at h;rw[qgp _ _ h.1,qnn h.2]
 | [],_::_,h=>by simp[ivsB] at h
 | _::_, [],h=>by simp[ivsB] at h
def qly: ∀ {x y},qgW x y=Y->x=y
 | [], [],_=>rfl
 | a::r,b::s,h=>by simp[qgW] at h;rw[qnn h.1,qly h.2]
 | [],_::_,h=>by simp[qgW] at h
 | _::_, [],h=>by simp[qgW] at h
def keyB:Value->Value->Bool
 | .agg ⟨a⟩, .agg ⟨b⟩=>go a b
 | .string a, .string b=>a.toList==b.toList
 | a,b=>valB a b
where
 go:List Value->List Value->Bool
  | [], []=>Y
  | x::r,y::s=>valB x y && go r s
  | _,_=>Z
def qno: ∀ {a b},keyB.go a b=Y->a=b
 | [], [],_=>rfl
 | x::r,y::s,h=>by simp[keyB.go] at h;rw[qi7 h.1,qno h.2]
 | [],_::_,h=>by simp[keyB.go] at h
 | _::_, [],h=>by simp[keyB.go] at h
def qfm:List (Value × IV)->List (Value × IV)->Bool
 | [], []=>Y
 | x::r,y::s=>match x.1,y.1 with
   | .agg ⟨a⟩, .agg ⟨b⟩=>keyB.go a b && (ivB x.2 y.2 && qfm r s)
   | a,b=>valB a b && (ivB x.2 y.2 && qfm r s)
 | _,_=>Z
def qhA: ∀ {x y},qfm x y=Y->x=y
 | [], [],_=>rfl
 | (k,x)::r,(d,y)::s,h=>by
   unfold qfm at h;split at h
   .rename_i a b e c;simp only at e c;simp at h;rw[e,c,qno h.1,qgp _ _ h.2.1,qhA h.2.2]
   .simp at h;have f:=qi7 h.1;rw[f,qgp _ _ h.2.1,qhA h.2.2]
 | [],_::_,h=>by simp[qfm] at h
 | _::_, [],h=>by simp[qfm] at h
def blkB:IBlk->IBlk->Bool
 | .arr s g r, .arr a b c=>Ka s a && (Ka g b && qgW r c)
 | .mp e, .mp d=>qfm e d
 | _,_=>Z
def qnh{x y}(h:blkB x y=Y):x=y:=by
 cases x<;>cases y<;>simp only[blkB,Kg,Kh] at h
 .rw[Kb h.1,Kb h.2.1,qly h.2.2]
 .rw[qhA h]
def ql6(s:List (Nat × IV)):List (Nat × IV)->Bool
 | []=>Y
 | p::r=>(match look s p.1 with | some x=>ivB x p.2 | none=>Z) && ql6 s r
def qod(l:List (Nat × IBlk)):List (Nat × IBlk)->Bool
 | []=>Y
 | p::r=>(match look l p.1 with | some x=>blkB x p.2 | none=>Z) && qod l r
def qgX(l':List (Nat × IBlk)):List (Nat × IBlk)->Bool
 | []=>Y
 | p::r=>(look l' p.1).isSome && qgX l' r
def likeB(S S':qab):Bool:=Ka S.n S'.n && (Ka S.nx S'.nx && (S.d.isEmpty && (S'.d.isEmpty && (ql6 S.s S'.s && (qod S.l S'.l && qgX S'.l S.l)))))
def likeB_sub{S S':qab}(h:likeB S S'=Y)(j:h0.nx<=S.nx):Sub h0 [] S S':=by
 simp only[likeB,Kg,Ko] at h;obtain⟨g,f,k,m,b,c,d⟩:=h;have g:=Kb g;have f:=Kb f;refine⟨g.symm,by rw[k,m], .inl k,wa,wa,λp a=>?_,λp a=>?_,λp a=> .inr ?_,wb⟩
 .revert b;generalize S'.s=l at a;intro b;induction l with
  | nil=>cases a
  | cons q r i=>
    simp only[ql6,Kg] at b;rcases List.mem_cons.1 a with rfl | a
    .cases e:look S.s p.1 with
     | none=>rw[e] at b;cases b.1
     | some x=>rw[e] at b;exact⟨x,rfl,by rw[qgp _ _ b.1];exact .refl _, .inl f.symm⟩
    .exact i a b.2
 .revert c;generalize S'.l=l at a;intro c;induction l with
  | nil=>cases a
  | cons q r i=>
    simp only[qod,Kg] at c;rcases List.mem_cons.1 a with rfl | a
    .cases e:look S.l p.1 with
     | none=>rw[e] at c;cases c.1
     | some x=>rw[e] at c;exact⟨x,by rw[qae,e],by rw[qnh c.1];exact .refl _, .inl f.symm⟩
    .exact i a c.2
 .revert d;generalize S.l=l at a;intro d;induction l with
  | nil=>cases a
  | cons q r i=>
    simp only[qgX,Kg] at d;rcases List.mem_cons.1 a with rfl | a
    .obtain⟨x,n⟩:=Option.isSome_iff_exists.1 d.1;exact⟨x,look_mem n⟩
    .exact i a d.2
def mkT(o:Array Oper):Nat->Array Bool->OT
 | 0,_=> .leaf
 | n+1,a=>match Region.ready .any o a with
   | []=> .leaf
   | l=> .node (l.map λi=>(i,mkT o n (a.setIfInBounds i Y)))
def oX(P:Program)(h0:IH)(a:Array Oper)(o:Oper)(S:qab):Option qab:=
 match qam a S.s o with
 | some Y=>match fop P (ev S.s) (look (S.l++h0.m)) S.nx a o.dst o.op,dOk S.n o.dst with
   | some f,Y=>V ⟨S.n,putS o.dst f.x S.s,S.d,S.nx+f.F.length,f.W.reverse++S.l⟩
   | _,_=>U
 | some Z=>match dOk S.n o.dst with
   | true=>V ⟨S.n,putS o.dst (.tup []) S.s,S.d,S.nx,S.l⟩
   | false=>U
 | none=>U
def oX_one{a K o S S'}(h:oX P h0 a o S=V S')(d:K S'):oOne P h0 a K (V o) S:=by grind[oOne,qaQ,qgw,qbD,qg4,oX]
mutual
def oAll(P:Program)(h0:IH)(all:Array Oper)(fin:qab->Bool):OT->qab->Bool
 | .leaf,S=>fin S
 | .node bs,S=>qdW P h0 all fin bs S
def qdW(P:Program)(h0:IH)(all:Array Oper)(fin:qab->Bool):List (Nat × OT)->qab->Bool
 | [],_=>Y
 | (i,t)::r,S=>(match all[i]? with
   | some o=>match oX P h0 all o S with
     | some S'=>oAll P h0 all fin t S'
     | none=>Z
   | none=>Z) && qdW P h0 all fin r S
end
mutual
theorem qpS{all:Array Oper}{fin:qab->Bool}: ∀(t:OT) (S:qab),oAll P h0 all fin t S=Y->qcS P h0 all (λS1=>fin S1=Y) t S
 | .leaf,S,h=>by rw[oAll] at h;rw[qcS];exact h
 | .node bs,S,h=>by rw[oAll] at h;rw[qcS];exact qio bs S h
theorem qio{all:Array Oper}{fin:qab->Bool}: ∀(bs:List (Nat × OT)) (S:qab),qdW P h0 all fin bs S=Y->qbN P h0 all (λS1=>fin S1=Y) bs S
 | [],S,_=>by rw[qbN];trivial
 | (i,t)::r,S,h=>by
   rw[qdW,Kg] at h;rw[qbN];refine⟨?_,qio r S h.2⟩;have h1:=h.1;split at h1
   .rename_i o ho;split at h1
    .rename_i S' hS;rw[ho];exact oX_one hS (qpS t S' h1)
    .cases h1
   .cases h1
end
def oFst(P:Program)(h0:IH)(a:Array Oper):List Nat->qab->Option qab
 | [],S=>V S
 | i::r,S=>match a[i]? with
   | some o=>match oX P h0 a o S with
     | some b=>oFst P h0 a r b
     | none=>U
   | none=>U
def dds(n:List Nat):List (Nat × IV)->List (Nat × IV)
 | []=> []
 | p::r=>match n.contains p.1 with
   | true=>dds n r
   | false=>p::dds (p.1::n) r
def liveB:List It->Bool
 | .code _::_=>Y
 | .ops _ _::_=>Y
 | _=>Z
structure Grow(ts:List Nat)(S S':qab):Prop where
 n:S'.n=S.n
 d:S'.d=S.d
 s: ∃pre,S'.s=pre++S.s/\ ∀p∈pre,p.1∈ts
 l: ∃pre,S'.l=pre++S.l
def Grow.refl(ts S):Grow ts S S:=⟨rfl,rfl,⟨[],rfl,wb⟩,⟨[],rfl⟩⟩
def Grow.trans{ts S d e}(h:Grow ts S d)(k:Grow ts d e):Grow ts S e:=by
 obtain⟨p,f,g⟩:=h.s;obtain⟨q,i,j⟩:=k.s;obtain⟨a,l⟩:=h.l;obtain⟨b,m⟩:=k.l;refine⟨k.n.trans h.n,k.d.trans h.d,⟨q++p,wg,λx c=>?_⟩,⟨b++a,wg⟩⟩
 grind
def dsts:List Oper->List Nat
 | []=> []
 | o::r=>match o.dst with
   | some t=>t::dsts r
   | none=>dsts r
theorem qpq(o r):dsts (o::r)=match o.dst with | some t=>t::dsts r | none=>dsts r:=rfl
def qqy{o:Oper}{t:Nat}(e:o.dst=V t): ∀ {l},o∈l->t∈dsts l:=by
 intro l;induction l<;>grind[qpq]
def grow_put{ts S dst x nx W}(h: ∀t,dst=V t->t∈ts):Grow ts S ⟨S.n,putS dst x S.s,S.d,nx,W++S.l⟩:=by
 refine⟨rfl,rfl,?_,⟨W,rfl⟩⟩;cases dst with
 | none=>exact⟨[],rfl,wb⟩
 | some t=>exact⟨[(t,x)],rfl,λp a=>by grind⟩
def qnv{a o S S'}(h:oX P h0 a o S=V S')(c:o∈a.toList):Grow (dsts a.toList) S S':=by
 have b: ∀t,o.dst=V t->t∈dsts a.toList:=λt e=>qqy e c
 unfold oX at h;split at h<;>try grind
 .split at h<;>try grind
  cases h;exact grow_put b
 .split at h<;>try grind
  cases h;exact grow_put (W:= []) b
mutual
theorem qjA{all:Array Oper}{fin:qab->Bool}{S0:qab}: ∀(t:OT) (S:qab),oAll P h0 all fin t S=Y->Grow (dsts all.toList) S0 S->qcS P h0 all (λS1=>fin S1=Y/\Grow (dsts all.toList) S0 S1) t S
 | .leaf,S,h,hg=>by rw[oAll] at h;rw[qcS];exact⟨h,hg⟩
 | .node bs,S,h,hg=>by rw[oAll] at h;rw[qcS];exact qin bs S h hg
theorem qin{all:Array Oper}{fin:qab->Bool}{S0:qab}: ∀(bs:List (Nat × OT)) (S:qab),qdW P h0 all fin bs S=Y->Grow (dsts all.toList) S0 S->qbN P h0 all (λS1=>fin S1=Y/\Grow (dsts all.toList) S0 S1) bs S
 | [],S,_,_=>by rw[qbN];trivial
 | (i,t)::r,S,h,hg=>by
   rw[qdW,Kg] at h;rw[qbN];refine⟨?_,qin r S h.2 hg⟩;have h1:=h.1;split at h1
   .rename_i o ho;split at h1
    .rename_i S' hS;rw[ho];exact oX_one hS (qjA t S' h1 (hg.trans (qnv hS (by rw[<-Array.getElem?_toList] at ho;exact List.mem_of_getElem? ho))))
    .cases h1
   .cases h1
end
def oFst_grow{a}: ∀(l S S'),oFst P h0 a l S=V S'->Grow (dsts a.toList) S S'
 | [],S,S',h=>by cases h;exact .refl _ _
 | i::r,S,S',h=>by
   unfold oFst at h;split at h<;>try grind
   split at h<;>try grind
   rename_i c d;exact(qnv d wg).trans (oFst_grow r c S' h)
def sameS(s s':List (Nat × IV)):List Nat->Bool
 | []=>Y
 | t::r=>(match look s t,look s' t with
   | some x,V y=>ivB x y
   | none,U=>Y
   | _,_=>Z) && sameS s s' r
def qjN{s s'}: ∀ {ts},sameS s s' ts=Y-> ∀t∈ts,look s t=look s' t
 | [],_,t,h=>by grind
 | a::r,h,t,b=>by
   simp[sameS] at h;rcases List.mem_cons.1 b with rfl | b
   .have c:=h.1;split at c
    .rename_i x y e d;rw[e,d,qgp _ _ c]
    .grind
    grind
   .exact qjN h.2 t b
def qkj(l:List (Nat × IBlk)):List (Nat × IBlk)->Bool
 | []=>Y
 | p::r=>(match look l p.1 with | some x=>blkB x p.2 | none=>Z) && qkj l r
def qjM{l}: ∀ {r},qkj l r=Y-> ∀p∈r,look l p.1=V p.2
 | [],_,p,h=>by grind
 | a::r,h,p,b=>by
   simp[qkj] at h;rcases List.mem_cons.1 b with rfl | b
   .have c:=h.1;split at c
    .rename_i x e;rw[e,qnh c]
    grind
   .exact qjM h.2 p b
def keysB_mem{l'}: ∀ {l},qgX l' l=Y-> ∀p∈l,(look l' p.1).isSome=Y
 | [],_,p,h=>by grind
 | a::r,h,p,b=>by
   simp[qgX] at h;rcases List.mem_cons.1 b with rfl | b
   .grind
   .exact keysB_mem h.2 p b
def sameB(ts:List Nat)(k:Nat)(S a:qab):Bool:=
 Ka S.nx a.nx && (sameS S.s a.s ts && (qkj (a.l.take (a.l.length - k)) (ddp (S.l.take (S.l.length - k))) && qgX (S.l.take (S.l.length - k)) (a.l.take (a.l.length - k))))
def qfk: ∀(s n p),p∈dds n s->p.1 ∉ n/\look s p.1=V p.2
 | [],n,p,h=>by cases h
 | q::r,n,p,h=>by
   unfold dds at h;split at h
   .obtain⟨a,c⟩:=qfk r n p h
    grind[look]
   .rcases List.mem_cons.1 h with rfl | h
    .simp_all[look]
    .obtain⟨a,c⟩:=qfk r (q.1::n) p h
     grind[look]
def qdL(s:List (Nat × IV)):List Nat->List (Nat × IV)
 | []=> []
 | t::r=>match look s t with
   | some x=>(t,x)::qdL s r
   | none=>qdL s r
def qde{s}: ∀ {ts p},p∈qdL s ts->p.1∈ts/\look s p.1=V p.2
 | [],p,h=>by cases h
 | t::r,p,h=>by
   unfold qdL at h;split at h
   .rcases List.mem_cons.1 h with rfl | h
    .grind
    .exact⟨Kp _ (qde h).1,(qde h).2⟩
   .exact⟨Kp _ (qde h).1,(qde h).2⟩
def qqX{a s:List (Nat × IV)}{ts:List Nat}(h: ∀p∈a,p.1∈ts){t}(b:t ∉ ts):look (a++s) t=look s t:=by
 rw[qae];cases e:look a t with
 | none=>rfl
 | some x=>exact absurd (h _ (look_mem e)) b
def qlG{l:List (Nat × IBlk)}{b}(h:look l b=U): ∀p∈l,p.1≠b:=wN
def same_sub{ts:List Nat}{S c g:qab}(q:Grow ts S c)(l:Grow ts S g)(H:S.d= [])(h:sameB ts S.l.length c g=Y)(i:h0.nx<=c.nx):
  Sub h0 [] g ⟨c.n,qdL c.s ts++dds ts S.s, [],c.nx,ddp c.l⟩:=by
 simp only[sameB,Kg] at h;obtain⟨d,I,B,C⟩:=h;have d:=Kb d;obtain⟨N,O,Q⟩:=q.s;obtain⟨R,K,L⟩:=l.s;obtain⟨m,j⟩:=q.l;obtain⟨r,n⟩:=l.l;have D:c.l.take (c.l.length - S.l.length)=m:=by rw[j];simp
 have E:g.l.take (g.l.length - S.l.length)=r:=by rw[n];simp
 rw[D,E] at B;rw[D,E] at C;have F:=keysB_mem C;have lk: ∀b x,look c.l b=V x->look g.l b=V x:=by
  intro b x o;cases e:look m b with
  | some y=>
    have s:y=x:=by rw[j,qae,e] at o;simpa using o
    subst s;have M: ∃G,(b,G)∈ddp m:=qec (look_mem e);obtain⟨G,k⟩:=M;have f:=qed k;simp only at f;rw[e] at f;cases f;have:=qjM B _ k;rw[n,qae,this]
  | none=>
    have t:look r b=U:=by
     cases u:look r b with
     | none=>rfl
     | some z=>
       have:=F _ (look_mem u);simp only[e] at this;cases this
    rw[j,qae,e] at o;rw[n,qae,t];exact o
 refine⟨q.n.trans l.n.symm,by rw[l.d,H], .inr d,i,Nat.le_of_eq d,λp a=>?_,λp a=>?_,λp a=> .inr ?_,wb⟩
 .rcases List.mem_append.1 a with a | a
  .obtain⟨v,w⟩:=qde a;exact⟨p.2,by rw[<-qjN I _ v];exact w, .refl _, .inl d⟩
  .obtain⟨v,w⟩:=qfk _ _ _ a;exact⟨p.2,by rw[K,qqX L v];exact w, .refl _, .inl d⟩
 .have:=qed a;exact⟨p.2,by rw[qae,lk _ _ this], .refl _, .inl d⟩
 .have:(look c.l p.1).isSome=Y:=by
   rw[n] at a;rcases List.mem_append.1 a with a | a
   .have:=F p a;obtain⟨x,A⟩:=Option.isSome_iff_exists.1 this;rw[j,qae,A];rfl
   .rw[j,qae];cases e:look m p.1 with
    | some x=>rfl
    | none=>
      simp only;cases u:look S.l p.1 with
      | some x=>rfl
      | none=>exact absurd rfl (qlG u p a)
  obtain⟨x,A⟩:=Option.isSome_iff_exists.1 this;obtain⟨y,s⟩:=qec (p:=(p.1,x)) (look_mem A);exact⟨y,s⟩
def xo(P:Program)(h:IH)(o:Array Oper)(k:List It)(S:qab):Option qab:=
 match oFst P h o (List.range o.size) S with
 | some a=>match Kd h.nx a.nx && (S.d.isEmpty && (P.follows .mixedOrders && (liveB (unblk k) && ((mkT o (o.size+1) (Kw o.size Z)).all o o.size (Kw o.size Z) &&
   oAll P h o (λb=>sameB (dsts o.toList) S.l.length a b) (mkT o (o.size+1) (Kw o.size Z)) S)))) with
   | true=>V ⟨a.n,qdL a.s (dsts o.toList)++dds (dsts o.toList) S.s, [],a.nx,ddp a.l⟩
   | false=>U
 | none=>U
def xo_sound{id o k S S' Q}(h:xo P h0 o k S=V S')(i:IRun P h0 k S' Q):IRun P h0 (.code (.region id o Y)::k) S Q:=by
 unfold xo at h;split at h<;>try grind
 rename_i f j;split at h<;>try cases h
 rename_i q;simp only[Kg,Ko] at q;obtain⟨c,l,A,d,s,u⟩:=q;intro M0 B M a C b ro m;refine wpIn_region_any A ?_;have n:SRel h0 S {M with w:=M.w.drew} a:=⟨⟨b.heap.rel.drew,b.heap.A,b.heap.G⟩,b.size,λt x D=>by obtain⟨v,E,F⟩:=b.slot t x D;exact⟨v,E,F.step (.drew M)⟩,b.defs.step (.drew M)⟩;refine qrg (M0:=M0) (ro:=ro) m (λG K y H r z=>?_) o.size _ _ S {M with w:=M.w.drew} a s (qjA _ _ u (.refl _ S)) (C.trans (.drew M)) n;have e:=same_sub (h0:=h0) (oFst_grow _ _ _ j) z.2 l z.1 (Ke c);have g:Live (unblk k):=by
  revert d;generalize unblk k=k;intro d;cases k with
  | nil=>cases d
  | cons x k=>cases x<;>first | rfl | trivial
 have p:IRun P h0 (unblk k) ⟨f.n,qdL f.s (dsts o.toList)++dds (dsts o.toList) S.s, [],f.nx,ddp f.l⟩ Q:=by
  clear g d u s;induction k with
  | nil=>exact i
  | cons x k I=>cases x<;>first | exact I i | exact i
 have:=by
  refine qie (qgo e ?_ p);generalize unblk k=k at g;cases k with
  | nil=>exact g.elim
  | cons x k=>cases x<;>first | rfl | trivial
 exact⟨G,y,rfl,H,r,this⟩
def xdr(p:FuncId->List IV->Option IV)(e:FuncId->List IV->IH->Option (IEnd × Nat × List (Nat × IBlk)))(P:Program)(h:IH)(o:Array Oper)(S:qab):Option qab:=
 match xd p e P h o o.toList S [] with
 | some (a,f)=>match P.follows .mixedOrders,stat o.toList (uGo (qa0 o.toList []) 0 o.toList),chkB (uGo (qa0 o.toList []) 0 o.toList) f with
   | true,Y,Y=>V a
   | _,_,_=>U
 | none=>U
def xdr_sound{p}(a: ∀c zs x,p c zs=V x->PCall P c zs [] x/\bel 0 x)
  {j} (b: ∀c zs h r nx l,j c zs h=V (r,nx,l)->qa5 P c zs h λq n l'=>q=r/\n=nx/\l'=l)
  {id o k S S' Q} (h:xdr p j P h0 o S=V S') (s:IRun P h0 k S' Q):IRun P h0 (.code (.region id o Y)::k) S Q:=by
 unfold xdr at h;split at h<;>try grind
 rename_i m d e;split at h<;>try simp_all
 rename_i t g i;obtain⟨u,y,v,w⟩:=qmh (K:=λm f=>m=S'/\f=d) a b _ _ _ _ _ e ⟨rfl,rfl⟩;obtain⟨rfl,rfl⟩:=w;exact qfw t g v (by simpa using chkB_chk i) s
def qaH.cons{a o r S S' b}(h:qaH P h0 a (o::r) S b S'):
  ∃fr f e,b=fr::f/\qaH P h0 a [o] S [fr] e/\qaH P h0 a r e f S':=by
 cases h with
 | op c g i d h=>exact⟨_,_,_,rfl, .op c g i d (.nil _),h⟩
 | skip c d h=>exact⟨_,_,_,rfl, .skip c d (.nil _),h⟩
def qh2{B Q a o}: ∀(r S S' f),qaH P h0 a r S f S'->qfa P h0 B Q a o S'->dOk S'.n o.dst=Y->
  qa1 P h0 B Q a (Kj r.length 3++ [2]) (r++ [o]) S (f++ [{x:= .dead}]) ⟨S'.n,putS o.dst .dead S'.s,S'.d,S'.nx,S'.l⟩
 | [],S,S',f,h,c,d=>by
   cases h;exact .dead (.inr rfl) (λ_=>c) d (.nil _)
 | x::r,S,S',f,h,c,d=>by
   obtain⟨j,b,e,rfl,g,i⟩:=h.cons;exact .live ⟨wh,wh⟩ g (qh2 r e S' b i c d)
def qiK:List Nat->List FP->Bool
 | n::f,a::r=>(Kd 3 n || a.2.isEmpty) && qiK f r
 | _,_=>Y
def qiL: ∀ {f r},qiK f r=Y->wchk f r
 | [],_,_=>by simp[wchk]
 | _::_, [],_=>by simp[wchk]
 | n::f,b::r,h=>by
   simp[qiK] at h;refine⟨?_,qiL h.2⟩
   grind
def xpl(p:FuncId->List IV->Option IV)(e:FuncId->List IV->IH->Option (IEnd × Nat × List (Nat × IBlk)))(P:Program)(h:IH)(a:Array Oper)(S:qab):Option (List PanicEntry × qab):=
 match a.toList.getLast? with
 | some o=>match xd p e P h a a.toList.dropLast S [] with
   | some (b,d)=>match o.op,qam a b.s o,dOk b.n o.dst with
     | .call {callee:= .value f,args:=⟨args⟩,argTypes:=⟨t⟩},V Y,Y=>match qao (ev b.s) f args with
       | some (c,z)=>match fnOk P c,qbS.goB (qbw P t z),e c (qbw P t z) ⟨0, []⟩ with
         | true,Y,V (.pan g,_, [])=>match P.follows .mixedOrders && (stat a.toList (uGo (qa0 a.toList []) 0 a.toList) && (chkB (uGo (qa0 a.toList []) 0 a.toList) (d++ [([], [])]) &&
           (flGo (qa0 a.toList []) (a.toList.length - 1) 0 (Kj (a.toList.length - 1) 3++ [2]) && qiK (Kj (a.toList.length - 1) 3++ [2]) (d++ [([], [])])))) with
           | true=>V (g,⟨b.n, [],b.d,b.nx,b.l⟩)
           | false=>U
         | _,_,_=>U
       | none=>U
     | _,_,_=>U
   | none=>U
 | none=>U
def qgD{k}: ∀ {zs},qbS.goB zs=Y->qaK (· < k) zs
 | _,h=>qbH (qhE k _ h)
def qsr{ρ zs}(h:qbS.goB zs=Y):rnms ρ zs=zs:=by rw[qdY (σ:=id) (K:=λi=>i < 0) (λi a=>absurd a (Nat.not_lt_zero _)) (qgD h),qg9]
def xpl_sound{L:FuncId->List IV->Option IV}(E: ∀c zs x,L c zs=V x->PCall P c zs [] x/\bel 0 x)
  {M:FuncId->List IV->IH->Option (IEnd × Nat × List (Nat × IBlk))} (d: ∀c zs h r nx l,M c zs h=V (r,nx,l)->qa5 P c zs h λr' e l'=>r'=r/\e=nx/\l'=l)
  {id:Nat} {a:Array Oper} {k:List It} {S S':qab} {N:List PanicEntry} {Q:Exit->qab->Prop} (h:xpl L M P h0 a S=V (N,S')) (hv:Q (.panic N) S'):IRun P h0 (.code (.region id a Y)::k) S Q:=by
 unfold xpl at h;split at h<;>try(cases h;done)
 rename_i o g;split at h<;>try(cases h;done)
 rename_i S1 i j;split at h<;>try(cases h;done)
 rename_i f m O F R hd;split at h<;>try(cases h;done)
 rename_i c zs hc;split at h<;>try(cases h;done)
 rename_i G e H p he;split at h<;>try(cases h;done)
 rename_i T;simp only[Option.some.injEq,Prod.mk.injEq] at h;obtain⟨rfl,rfl⟩:=h;simp only[Kg] at T;obtain⟨hm,q,s,t,u⟩:=T;obtain⟨I,v,X,h2⟩:=qmh (K:=λv w=>v=S1/\w=i) E d _ _ _ _ _ j ⟨rfl,rfl⟩;obtain⟨rfl,y⟩:=h2;rw[List.nil_append] at y;obtain⟨a⟩:=a;simp only at g j q s t u X R ⊢;have z:a=a.dropLast++ [o]:=by
  have A:a≠ []:=by rintro rfl;simp at g
  rw[Kq A,Option.some.injEq] at g;rw[<-g];exact(Kr A).symm
 have C:a.dropLast.length=a.length - 1:=List.length_dropLast;have D:qfa P h0 (λn=>n=v.nx) Q a.toArray o v:=by
  refine⟨f,m,O,(c,zs),F,hc,R,H,qbw P O zs, [],G,(λl=>l= []), [],⟨?_,wb,?_⟩,⟨?_,trivial,trivial⟩,?_⟩
  .exact qgD p
  .exact(d _ _ _ _ _ _ he).mono λr n l ⟨a1,a2,a3⟩=>⟨a1,a3,by rw[a3];simp⟩
  .exact qsr p
  .rintro W rfl a0 _ rfl;exact hv
 have hx:=qh2 (B:=λn=>n=v.nx) _ _ _ _ X D hd;rw[<-z,C] at hx;have b:(I++ [({x:= .dead}:FR)]).map FR.fp=i++ [([], [])]:=by rw[List.map_append,y];rfl
 refine qhm (j0:=a.length - 1) (o0:=o) hm q t hx (by rw[b];exact chkB_chk s) (by rw[b];exact qiL u) rfl ?_ ?_<;>grind
def gdP(y:FuncId->Bool)(p:FuncId->List IV->Option IV)(c:FuncId)(zs:List IV):Option IV:=match y c with
 | true=>U
 | false=>p c zs
def qjk{y p}(a: ∀c zs x,p c zs=V x->PCall P c zs [] x/\bel 0 x): ∀c zs x,gdP y p c zs=V x->PCall P c zs [] x/\bel 0 x:=by grind[gdP]
def xyl(r:XRun)(b:Bool)(h:IH)(o:Oper)(S:qab):Option qab:=
 match o.op with
 | .call {callee:= .value f,args,argTypes:=_}=>match ev S.s f with
   | some (.mp c)=>match look (S.l++h.m) c,rlist (ev S.s) args.toList with
     | some (.ob (.lp n i p a g U) v),V z=>match Ka z.length p.length && (p.all (λt=>Kc t n) && (ndC a && ndC g)) with
       | true=>match r b ⟨S.nx,outK c (S.l++h.m)⟩ [.code a] (qe3 n i p v z S.nx) with
         | some (.normal,k)=>match k.d.isEmpty with
           | true=>match r b ⟨S.nx,outK c (S.l++h.m)⟩ [.code g] k with
             | some (e,d)=>match nobB c (d.l++outK c (S.l++h.m)) && Kd S.nx d.nx with
               | true=>match qlz e with
                 | some U=>V (S.put o.dst (scb Y) d.nx d.l)
                 | some (V j)=>V (S.put o.dst (scb Z) d.nx ((c, .ob (.lp n i p a g (V j)) v)::d.l))
                 | none=>U
               | false=>U
             | none=>U
           | false=>U
         | _=>U
       | false=>U
     | _,_=>U
   | _=>U
 | _=>U
def xyl_sound{i}(c:qda P i){b h g o r S S' Q}(a:xyl i b h o S=V S')(u:qam g S.s o=V Y)(v:qaC S o.dst=Y)
  (q:IOps P h g r S' Q):IOps P h g (o::r) S Q:=by
 unfold xyl at a;split at a<;>try(cases a)
 rename_i f d H k;split at a<;>try simp_all
 rename_i I w;split at a<;>try simp_all
 rename_i n K L x M N O y z;split at a<;>try grind
 rename_i s;simp only[Kg] at s;obtain⟨A,B,C,D⟩:=s;split at a<;>try(cases a)
 rename_i R E;split at a<;>try(cases a)
 rename_i l;split at a<;>try(cases a)
 rename_i e T F;split at a<;>try grind
 rename_i m;rw[Kg] at m;refine iops_yield (h0:=h) k u w y z (Kb A) (λt G=>by
  simp_all) C D v ?_
 refine c _ _ _ _ _ _ E _ ⟨rfl,List.isEmpty_iff.1 l,c _ _ _ _ _ _ F _ ⟨qoF m.1,Ke m.2,?_⟩⟩
 grind
def xmw(P:Program)(h:IH)(o:Oper)(S:qab):Option qab:=
 match o.op with
 | .range t x=>match ev S.s x,tkd P t with
   | some (.mp m),V (.map _ _)=>match look (S.l++h.m) m with
     | some (.mp e)=>V (S.put o.dst (.mp S.nx) (S.nx+1) [(S.nx, .ob (.it e.length [] e.length) [.mp m])])
     | _=>U
   | _,_=>U
 | .next x Z=>match ev S.s x with
   | some (.mp a)=>match look (S.l++h.m) a with
     | some (.ob (.it s seen l) [.mp m])=>match look (S.l++h.m) m with
       | some (.mp e)=>match Ka e.length s && (Kc 0 l || seen.isEmpty),qbG seen e.length with
         | true, []=>V (S.put o.dst (.tup [scb Z]) S.nx [])
         | true, [i]=>match e[i]? with
           | some (k,y)=>V (S.put o.dst (.tup [scb Y, .p (.sc k),y]) S.nx [(a, .ob (.it s (seen++ [i]) e.length) [.mp m])])
           | none=>U
         | _,_=>U
       | _=>U
     | _=>U
   | _=>U
 | .entry x=>match ev S.s x with
   | some (.mp a)=>match look (S.l++h.m) a with
     | some (.ob (.it _ seen b) [.mp m])=>match look (S.l++h.m) m,seen.getLast? with
       | some (.mp e),V i=>match Ka b e.length,e[i]? with
         | true,V (k,y)=>V (S.put o.dst (.tup [.p (.sc k),y]) S.nx [])
         | _,_=>U
       | _,_=>U
     | _=>U
   | _=>U
 | _=>U
def xmw_sound{h:IH}{g:Array Oper}{o:Oper}{r:List Oper}{S S':qab}{Q:Exit->qab->Prop}(a:xmw P h o S=V S')(v:qam g S.s o=V Y)(w:qaC S o.dst=Y)
  (z:IOps P h g r S' Q):IOps P h g (o::r) S Q:=by
 unfold xmw at a;split at a<;>try(cases a;done)
 .rename_i t x b;split at a<;>try(cases a;done)
  rename_i D k e m H;split at a<;>try(cases a;done)
  rename_i E n;cases a;obtain⟨d,I,j⟩:=qaT H;have j:d= .map k e:=j;subst j;exact qop (h0:=h) b v m I n w z
 .rename_i x b;split at a<;>try(cases a;done)
  rename_i K m;split at a<;>try(cases a;done)
  rename_i s seen F D p;split at a<;>try(cases a;done)
  rename_i E n;split at a<;>try(cases a;done)
  .rename_i c A;cases a;simp only[Kg,Ki] at c;refine qjs (h0:=h) b v m p n (Kb c.1) (c.2.imp (λh=>Kf (by simpa[Kc] using h)) List.isEmpty_iff.1) w (λ_=>z) λi k y q=>?_;rw[A] at q;cases q
  .rename_i i c A;split at a<;>try(cases a;done)
   rename_i k y l;cases a;simp only[Kg,Ki] at c;refine qjs (h0:=h) b v m p n (Kb c.1) (c.2.imp (λh=>Kf (by simpa[Kc] using h)) List.isEmpty_iff.1) w (λG=>by rw[A] at G;cases G) λL N O q f=>?_;simp_all
 .rename_i x b;split at a<;>try(cases a;done)
  rename_i K m;split at a<;>try(cases a;done)
  rename_i s seen M D p;split at a<;>try(cases a;done)
  rename_i E i n B;split at a<;>try(cases a;done)
  rename_i k y c l;cases a;have c:=Kb c;subst c;have C:seen=seen.dropLast++ [i]:=by
   have u:seen≠ []:=by rintro rfl;simp at B
   rw[Kq u,Option.some.injEq] at B;rw[<-B];exact(Kr u).symm
  rw[C] at p;exact qon (h0:=h) b v m p n l w z
def xrf(r:XRun)(z:FuncId->Bool)(P:Program)(b:Bool)(h:IH)(g:Operand)(d:Array Nat)(a e:Code)(S:qab):Option (Option Code × qab):=
 match ev S.s g with
 | some x=>match ifnv x with
   | some (f,first,c)=>match fnOk P f with
     | true=>match xf r z P b f (first++ [.mp (S.nx+1)]++c) ⟨S.nx+2,(S.nx+1, .ob (.lp S.n ((dds [] S.s).map (·.1)) d.toList a e U) ((dds [] S.s).map (·.2)))::(S.nx, .ob .df [])::(S.l++h.m)⟩ with
       | some (.ret _,n,l)=>match look (l++ [(S.nx+1, .ob (.lp S.n ((dds [] S.s).map (·.1)) d.toList a e U) ((dds [] S.s).map (·.2)))]) (S.nx+1) with
         | some (IBlk.ob (.lp _ _ _ _ _ p) _)=>V (p,qfH S n l)
         | _=>U
       | _=>U
     | false=>U
   | none=>U
 | none=>U
def xrf_sound{r:XRun}{z}(f:qda P r){b:Bool}{h:IH}{g:Operand}{j}{i q:Code}{S S':qab}{e}{k:List It}{Q:Exit->qab->Prop}
  (a:xrf r z P b h g j i q S=V (e,S')) (s:match e with | none=>IRun P h k S' Q | some c=>IRun P h (.code c::k) S' Q):IRun P h (.code (.rangeFunc g j i q)::k) S Q:=by
 unfold xrf at a;split at a<;>try(cases a;done)
 rename_i x u;split at a<;>try(cases a;done)
 rename_i F first w y;split at a<;>try(cases a;done)
 rename_i l;split at a<;>try(cases a;done)
 rename_i A G B;split at a<;>try grind
 rename_i C t m n o d v D;simp only[Option.some.injEq] at a;exact irun_rangeFunc (h0:=h) u y l (qjc λp E=>(qfk _ _ p E).2) (qdx f B ⟨C,t,m,n,o,d,v,D,wg⟩)
def yr(P:Program)(z a:FuncId->Bool):Nat->XRun
 | 0,_,_,_,_=>U
 | n+1,b,h,k,S=>match k with
   | []=>V (.normal,S)
   | .blk _::k=>yr P z a n b h k S
   | .ops _ []::k=>yr P z a n b h k S
   | .ops f (o::r)::k=>match qaC S o.dst with
     | true=>match qam f S.s o with
       | some Y=>match xop (yr P z a n) z P b h f o S with
         | some (.normal,d)=>yr P z a n b h (.ops f r::k) d
         | some (.panic j,d)=>V (.panic j,d)
         | some _=>U
         | none=>match xyl (yr P z a n) b h o S with
           | some d=>yr P z a n b h (.ops f r::k) d
           | none=>match xmw P h o S with
             | some d=>yr P z a n b h (.ops f r::k) d
             | none=>U
       | some Z=>yr P z a n b h (.ops f r::k) (S.put o.dst (.tup []) S.nx [])
       | none=>U
     | false=>U
   | .code c::k=>match c with
     | .skip=>yr P z a n b h k S
     | .label _=>yr P z a n b h k S
     | .seq x y=>yr P z a n b h (.code x:: .code y::k) S
     | .block id c=>yr P z a n b h (.code c:: .blk id::k) S
     | .exit id=>qdk (yr P z a n) b h k (.exit id) S
     | .ret=>V (.ret,S)
     | .cond c x y=>match ev S.s c with
       | some (.p (.sc (.bool Y)))=>yr P z a n b h (.code x::k) S
       | some (.p (.sc (.bool Z)))=>yr P z a n b h (.code y::k) S
       | _=>U
     | .region _ i Z=>yr P z a n b h (.ops i i.toList::k) S
     | .region _ i Y=>match xdr (gdP a (xp (yr P z a n) z P)) (xf (yr P z a n) z P b) P h i S with
       | some d=>yr P z a n b h k d
       | none=>match xo P h i k S with
         | some d=>yr P z a n b h k d
         | none=>match xpl (gdP a (xp (yr P z a n) z P)) (xf (yr P z a n) z P b) P h i S with
           | some (j,d)=>V (.panic j,d)
           | none=>U
     | .loop c=>match yr P z a n b h [.code c] S with
       | some (.normal,d)=>yr P z a n b h (.code (.loop c)::k) d
       | some (e,d)=>qdk (yr P z a n) b h k e d
       | none=>U
     | .scope c=>match yr P z a n b h [.code c] S with
       | some (.normal,d)=>yr P z a n b h k d
       | some (e,d)=>qdk (yr P z a n) b h k e d
       | none=>U
     | .rangeFunc g m l q=>match xrf (yr P z a n) z P b h g m l q S with
       | some (U,d)=>yr P z a n b h k d
       | some (V c,d)=>yr P z a n b h (.code c::k) d
       | none=>U
     | _=>U
def qsH{z B:FuncId->Bool}: ∀n,qda P (yr P z B n)/\ ∀b h c k S e S',yr P z B n b h (.code (.loop c)::k) S=V (e,S')-> ∀Q:Exit->qab->Prop,Q e S'-> ∃m,qgO P h c (λe S=>after P h Q k e S) m S:=by
 intro n;induction n with
 | zero=>exact⟨λb h k S e S' f=>(by cases f),λb h c k S e S' f=>(by cases f)⟩
 | succ n j=>
   obtain⟨j,C⟩:=j;have s: ∀b h c k S e S',yr P z B (n+1) b h (.code (.loop c)::k) S=V (e,S')-> ∀Q:Exit->qab->Prop,Q e S'-> ∃m,qgO P h c (λe S=>after P h Q k e S) m S:=by
    intro b h c k S e S' f Q p;simp only[yr] at f;split at f<;>try cases f
    .rename_i t q;obtain⟨m,D⟩:=C b h c k t e S' f Q p;exact⟨m+1,qgl (j _ _ _ _ _ _ q _ D)⟩
    .rename_i E t u q;refine⟨1,qgl (j _ _ _ _ _ _ q _ ?_)⟩;have:=qeJ j f p;cases E with
     | normal=>exact(u rfl).elim
     | exit i=>exact this
     | goto i=>exact this
     | ret=>exact this
     | panic c=>exact this
     | outgrown=>exact this
   refine⟨?_,s⟩;intro b h k S e S' f Q p;cases k with
   | nil=>simp only[yr] at f;cases f;exact p
   | cons R k=>
     cases R with
     | blk id=>exact qhG (j _ _ _ _ _ _ f _ p)
     | ops T l=>
       cases l with
       | nil=>exact qgn (j _ _ _ _ _ _ f _ p)
       | cons o r=>
         simp only[yr] at f;split at f<;>try cases f
         rename_i w;split at f<;>try cases f
         .rename_i v;split at f<;>try cases f
          .rename_i t q;exact xop_sound j v w q (λ_=>j _ _ _ _ _ _ f _ p) (λO h=>by cases h)
          .rename_i O q;exact xop_sound j v w q (λh=>by cases h) (λW h=>by cases h;exact after_panic p)
          .split at f
           .rename_i t q;exact xyl_sound j q v w (j _ _ _ _ _ _ f _ p)
           .split at f<;>try cases f
            rename_i t q;exact xmw_sound q v w (j _ _ _ _ _ _ f _ p)
         .rename_i v;exact iops_skip v w (j _ _ _ _ _ _ f _ p)
     | code c=>
       cases c with
       | skip=>exact qju (j _ _ _ _ _ _ f _ p)
       | label l=>exact qid (j _ _ _ _ _ _ f _ p)
       | seq x y=>exact qlx (j _ _ _ _ _ _ f _ p)
       | block id c=>exact qic (j _ _ _ _ _ _ f _ p)
       | exit id=>simp only[yr] at f;exact qgm (qeJ j f p)
       | ret=>simp only[yr] at f;cases f;exact irun_ret (after_ret p)
       | cond c x y=>
         simp only[yr] at f;split at f<;>try cases f
         .rename_i F;exact irun_cond F (λ_=>j _ _ _ _ _ _ f _ p) (λh=>by cases h)
         .rename_i F;exact irun_cond F (λh=>by cases h) (λ_=>j _ _ _ _ _ _ f _ p)
       | region id ops d=>
         cases d with
         | false=>exact qhn (j _ _ _ _ _ _ f _ p)
         | true=>
           simp only[yr] at f;split at f
           .rename_i t G;exact xdr_sound (qjk λc H x h=>qhM j h) (λc H h r X l f=>qdx j f ⟨rfl,rfl,rfl⟩) G (j _ _ _ _ _ _ f _ p)
           .split at f
            .rename_i t I;exact xo_sound I (j _ _ _ _ _ _ f _ p)
            .split at f<;>try cases f
             rename_i O K;exact xpl_sound (qjk λc H x h=>qhM j h) (λc H h r X l f=>qdx j f ⟨rfl,rfl,rfl⟩) K p
       | scope c=>
         simp only[yr] at f;split at f<;>try cases f
         .rename_i t q;exact irun_scope (j _ _ _ _ _ _ q _ (j _ _ _ _ _ _ f _ p))
         .rename_i E t u q;refine irun_scope (j _ _ _ _ _ _ q _ ?_);have A:=qeJ j f p;cases E with
          | normal=>exact(u rfl).elim
          | goto l=>cases f
          | exit i=>exact A
          | ret=>exact A
          | panic c=>exact A
          | outgrown=>exact A
       | loop c=>
         obtain⟨m,D⟩:=s b h c k S e S' f Q p;intro M0 L M a hs hr ro N;exact wpIn_loop_rounds m (D M0 L M a hs hr ro N)
       | rangeFunc g ps a0 bo=>
         simp only[yr] at f;split at f<;>try cases f
         .rename_i t q;exact xrf_sound j q (j _ _ _ _ _ _ f _ p)
         .rename_i c t q;exact xrf_sound j q (j _ _ _ _ _ _ f _ p)
       | _=>simp only[yr] at f;cases f
def ycall(n z y){f args x}(h:xp (yr P z y n) z P f args=V x):PCall P f args [] x:=(qhM (qsH n).1 h).1
def ypB(P:Program)(n:Nat)(z y:FuncId->Bool)(f:FuncId)(args:List IV)(b:Bool):Bool:=
 match xp (yr P z y n) z P f args with
 | some (.p (.sc (.bool c)))=>c==b
 | _=>Z
def ycallB(n z y){f args b}(h:ypB P n z y f args b=Y):PCall P f args [] (scb b):=by
 unfold ypB at h;split at h
 .rename_i c a;have:c=b:=wg
  subst this;exact ycall n z y a
 grind
end Go.Idl
