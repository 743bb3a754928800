/- Facts leant on. -/
import Derived.Test.YtfhhdgkhajkapaaGreatNWr
import Derived.Test.YtfhhdgkhajkapaaGreatNRl
set_option linter.all false
open True renaming intro->Ka
open List renaming replicate->Kb,mem_of_getElem?->Kc
open Option renaming none->U,some->V
open Bool renaming true->Y
/- The law NodeOwn's closed facts, one by one. -/
namespace Go.Proofs.YtfhhdgkhajkapaaGreat
open Go Go.Idl Go.Proofs Go.Proofs.Tryz
set_option maxRecDepth 100000
open Go.ChangeShapes Go.WideShapes Go.ChangeAt Go.RowKit
def qaw{a b:Bool}(ha:a=Y)(hb:b=Y):(a && b)=Y:=by rw[ha,hb];rfl
def qp7:Rows.nodeOwnRow.wf (OpenSpec.ofChange Rows.nodeOwnSpec)=Y:=wb
def qp8:laidOutB Tryz.checked.prog=Y:=wb
def qp9:mapsRowed Tryz.checked.prog=Y:=wb
def qqa:Tryz.f8.params.all (Tryz.checked.prog.readableRec ·)=Y:=wb
def qqb:namedTie Tryz.checked.prog Rows.nodeOwnRow.named Rows.nodeOwnSpec.vars=Y:=wb
def qqc:(Rows.nodeOwnRow.stops== [])=Y:=wb
def qqd:(Tryz.checked.prog.stops== [])=Y:=wb
def qqe:(Rows.nodeOwnRow.knobs== [])=Y:=wb
def qqf:(Tryz.checked.prog.stopKnobs== [])=Y:=wb
def qqg:(Rows.nodeOwnRow.inPlace==Tryz.checked.prog.inPlace 8)=Y:=wb
def qof:(Rows.nodeOwnRow.unfollowed==Tryz.checked.prog.unfollowed 8)=Y:=wb
def qog:(Rows.nodeOwnRow.recurses==Tryz.checked.prog.recurses 8)=Y:=wb
def qoh:(Rows.nodeOwnRow.named==Tryz.checked.prog.varsNamed 8)=Y:=wb
def qoi:(Rows.nodeOwnRow.maps==(Tryz.f8.params.toList++Rows.nodeOwnSpec.plain.varTypes Tryz.checked.prog).any (Tryz.checked.prog.mapsRec ·))=Y:=wb
def qoj:(Rows.nodeOwnRow.ifaces==(Tryz.f8.params.toList++Rows.nodeOwnSpec.plain.varTypes Tryz.checked.prog).any (Tryz.checked.prog.ifacesRec ·))=Y:=wb
def qok:(Rows.nodeOwnRow.mapsOut==Tryz.checked.prog.mapsAmong Tryz.f8.resultTypes.toList)=Y:=wb
def qol:(Rows.nodeOwnRow.loops==(Tryz.f8.params.toList++Rows.nodeOwnSpec.plain.varTypes Tryz.checked.prog).any (Tryz.checked.prog.loopsFrom ·))=Y:=wb
def qom:(Rows.nodeOwnRow.wideKeys==(Tryz.f8.params.toList++Rows.nodeOwnSpec.plain.varTypes Tryz.checked.prog++Tryz.f8.resultTypes.toList).any (Tryz.checked.prog.wideKeysFrom ·))=Y:=wb
def qon:Rows.nodeOwnSpec.vars.all (Tryz.checked.prog.varReadable ·)=Y:=wb
def qoo:Tryz.f8.resultTypes.all (λt=>Tryz.checked.prog.readableRec t && decide (t < Tryz.checked.prog.types.size))=Y:=wb
def qop:(Rows.nodeOwnRow.ifacesOut==Tryz.f8.resultTypes.toList.any (Tryz.checked.prog.ifacesRec ·))=Y:=wb
def qoq:(Rows.nodeOwnRow.loopsOut==Tryz.f8.resultTypes.toList.any (Tryz.checked.prog.loopsFrom ·))=Y:=wb
def qor:(Rows.nodeOwnRow.plainKeys==Tryz.checked.prog.plainKeys)=Y:=wb
def qos:Rows.nodeOwnRow.shortTexts.isNone=Y:=wb
def qot:Tryz.checked.prog.stopsHeard=Y:=wb
def qou:Tryz.checked.prog.mayEnter=Y:=wb
def qov:(Rows.nodeOwnRow.lifted==Tryz.checked.prog.liftsFinal)=Y:=wb
def qow:(Tryz.checked.prog.make==V Rows.nodeOwnRow.make)=Y:=wb
def qox:(Rows.nodeOwnRow.kinds==(if Rows.nodeOwnRow.domain.isEmpty then [] else Tryz.f8.params.toList.map λt=>match Tryz.checked.prog.underlying t with | some (.int k)=>V k | _=>U))=Y:=wb
def qoy:(Rows.nodeOwnRow.pinned==Rows.nodeOwnRow.pinnedBy)=Y:=wb
def qoz:(Rows.nodeOwnRow.veiled==(Tryz.f8.params.toList++Rows.nodeOwnSpec.plain.varTypes Tryz.checked.prog++Tryz.f8.resultTypes.toList).any (Tryz.checked.prog.veiledRec ·))=Y:=wb
def qoA:Rows.nodeOwnRow.veiledFits Tryz.checked.prog Tryz.f8.params.toList (Tryz.f8.params.toList++Rows.nodeOwnSpec.plain.varTypes Tryz.checked.prog++Tryz.f8.resultTypes.toList)=Y:=wb
def qkT:joinedFacts Tryz.checked.prog 8 Tryz.f8 Rows.nodeOwnSpec Rows.nodeOwnRow=Y:=qaw (qaw (qaw (qaw (qaw (qaw (qaw (qaw (qaw (qaw (qaw (qaw (qaw (qaw (qaw (qaw (qaw (qaw (qaw (qaw (qaw (qaw (qaw (qaw (qaw (qaw (qaw (qaw (qaw (qaw (qaw (qp7) qp8) qp9) qqa) qqb) qqc) qqd) qqe) qqf) qqg) qof) qog) qoh) qoi) qoj) qok) qol) qom) qon) qoo) qop) qoq) qor) qos) qot) qou) qov) qow) qox) qoy) qoz) qoA
end Go.Proofs.YtfhhdgkhajkapaaGreat
/- The node that was handed in stays as it was: the walk of NodeOwn. -/
namespace Go.Proofs.NO
open Go Go.Idl Go.Proofs Go.GP Go.Proofs.Tryz
set_option maxHeartbeats 0
set_option maxRecDepth 100000
def NodeOwn_pure(s0:Sc)(n0:Int)(L:List Op):
  Pure prog 8 [lApp s0,sci .i64 n0,lOps L] (scb Y):=by
 obtain⟨k8,kl,ko⟩:=qnb s0;refine pcall0 200 (fn:=Tryz.f8) func8 rfl (by simp[ntmps8]) zB zB λhs=>?_;refine zV ?_;(refine zG ?_;refine qaa (qfB s0) zB ?_;refine zV ?_);generalize cutSc s0=s at *;have hT:=qit k8 ko;refine zV ?_;(refine zG ?_;refine qaa (qd6 s k8 ko) zB ?_;refine zV ?_);obtain⟨N,ls,T,ff,room,acts⟩:=s;simp only at k8 kl ko hT;(refine zG ?_;refine qaa (qer N ls T hT) zB ?_;refine zV ?_);by_cases hH:TabP N ls T
 .have eH:=qaj hH;(try simp(maxSteps:=2000000) (disch:=omega) only[go_sem,simprocAttr,zD,zE,eH]);have hN:=hH.1.1;obtain⟨m,hm⟩: ∃m:Nat,(m:Int)=if n0 < 0\/N<=n0 then 0 else n0:=by
   split
   .exact⟨0,rfl⟩
   .exact⟨n0.toNat,wa⟩
  have hmN:(m:Int) < N:=by rw[hm];split<;>omega
  have hmT:m < T.length:=by have:=hH.2.1;omega
  have hx:=List.getElem?_eq_getElem hmT;generalize T[m]=nd at hx;have hnew:=NOk.new (qjM hH hx) rfl;have hup0:=UpOk.new ⟨m,nd.start,0,Kb (ins m 0 ls).length [],Kb (outs m 0 ls).length []⟩;refine zN [1,2,3,7] [U,U,V [3,4,6,7],U,U,V [6,7],V [0,1,2,3,4,5,7],V [0,1,2,3,4,5,6],V [],V []] ?_;refine zX (qg6 N ls T ff n0 m nd kl hm hx) ?_;(refine zF ?_;refine qaa (qhS N ls T ff n0 m nd kl hm hx) zB ?_;refine zV ?_);generalize newN ⟨m,nd.start,0,Kb (ins m 0 ls).length [],Kb (outs m 0 ls).length []⟩=x0 at *;refine zP ?_;(refine walk_trim [2,3,8,9,10] trivial zL ?_;((try refine zW ?_);(try with_reducible exact Ka)));refine qac 200 200 (λi:Nat × No=>i.1<=L.length/\i.1<=20/\NOk N ls T i.1 i.2/\UpOk i.2)
   (λi=>⟨102, [(2,lOps L),(3, .ptr 0 0 0 0),(8, .ptr 2 0 0 0),(9, .ptr 3 0 0 0),(10,sci .i64 i.1)], [],4, [(3, .arr 28 0 [cNo i.2]),(2, .arr 28 0 [cNo i.2]),(0, .arr 4 0 [[sci .i64 N, .p (.imm 2 (pr eII ls)), .p (.imm 2 (pr eNd T)),scb ff]])]⟩) (λi=>20 - i.1) (0,x0) [] ?_ ?_ ?_
  .exact⟨Nat.zero_le _,Nat.zero_le _,hnew,hup0⟩
  .constructor<;>(try simp(maxSteps:=2000000) (disch:=omega) only[go_sem,simprocAttr,zD,zE,Int.natCast_zero])
  .clear hnew hm hmN hmT hx hup0;rintro⟨i,x⟩ ⟨i1,i2,i3,i4⟩;simp only at i1 i2 i3 i4;have gx:=i3.gNo wa;have hRx:=qe3 x gx.g;have hSx:=qd2 x gx;refine zV ?_;by_cases hlt:i < L.length/\i < 20
   .obtain⟨hl1,hl2⟩:=hlt;obtain⟨nn,j,nd',hf⟩:=i3.hf;have hwt:(stOf T x.h).waits.length<=1000:=by
     have:=((ko nd' (Kc hf.hx)).2 _ (Kc hf.hq)).1;omega
    have hD:=λo=>qpp N ls T ff x o i i3 wa wa i4 k8 ko kl hT hwt
    refine zP ?_;(refine walk_trim [2,3,8,9,10,11] trivial zL ?_;((try refine zW ?_);(try with_reducible exact Ka)));refine qac 200 200 (λk:Nat=>i<=k/\k<=i+4)
     (λk=>⟨102, [(2,lOps L),(3, .ptr 0 0 0 0),(8, .ptr 2 0 0 0),(9, .ptr 3 0 0 0),(10,sci .i64 i),(11,sci .i64 k)], [],4, [(3, .arr 28 0 [cNo x]),(2, .arr 28 0 [cNo x]),(0, .arr 4 0 [[sci .i64 N, .p (.imm 2 (pr eII ls)), .p (.imm 2 (pr eNd T)),scb ff]])]⟩) (λk=>i+4 - k) i [] ?_ ?_ ?_
    .exact⟨Nat.le_refl _,Nat.le_add_right _ _⟩
    .constructor<;>((try refine zO ?_);(try with_reducible exact Ka))
    .rintro k ⟨j1,j2⟩;refine zV ?_;by_cases hk:k < L.length/\k < i+4
     .obtain⟨hk1,hk2⟩:=hk;generalize hp:L[k]=p at *;have hDp:=hD p;obtain⟨kind,en,link,⟨f1,f2,⟨f3,f4⟩,f5,f6,f7,f8,f9⟩⟩:=p;generalize nextN ls ff T x _=y at *;refine zP ?_;(refine zM [2,3,8,9,10,11] ?_;refine zI [U,U,U,U,U,U,U,V [12,13],U,U,U,U,V [0,1,2,3,4,5,6,7,8,9,10,11,13],V [0,1,2,3,4,5,6,7,8,9,10,11,12],V [10,11],V [11],U] ?_);(try simp(maxSteps:=2000000) (disch:=omega) only[go_sem,simprocAttr,zD,zE,eOpN,hp]);refine zX hDp ?_;refine zN [2,3,8,9,10,11,14] [U,U,U,U,V [5],U,V [],U,U] ?_;refine zX hRx ?_;refine zX hSx ?_;refine⟨k+1, [],⟨wa,wa⟩,wa,?_⟩;constructor<;>((try refine zO ?_);(try with_reducible exact Ka))
     .generalize hp:L[i]=p at *;have hDp:=hD p;have ok:=qpC (ff:=ff) i3 wa wa hwt p;have up:=next_up (ls:=ls) (ff:=ff) (T:=T) i4 p;obtain⟨kind,en,link,⟨f1,f2,⟨f3,f4⟩,f5,f6,f7,f8,f9⟩⟩:=p;generalize nextN ls ff T x _=y at *;rcases Nat.lt_or_ge k L.length with hl | hl;all_goals
       refine zP ?_;(refine zM [2,3,8,9,10] ?_;refine zI [U,U,U,U,U,U,U,V [12,13],U,U,U,U,V [0,1,2,3,4,5,6,7,8,9,10,11,13],V [0,1,2,3,4,5,6,7,8,9,10,11,12],V [10,11],V [11],U] ?_);(try simp(maxSteps:=2000000) (disch:=omega) only[go_sem,simprocAttr,zD,zE,eOpN,hp]);refine zX hDp ?_;refine⟨(i+1,y), [],⟨hl1,hl2,ok,up⟩,we,?_⟩;constructor<;>((try refine zO ?_);(try with_reducible exact Ka))
   .rcases Nat.lt_or_ge i L.length with hl | hl;all_goals
     refine zP ?_;refine zN [8,9] [U,V [2],U,V [],U,V [],U,U] ?_;refine zX hRx ?_;refine zX hSx ?_;(refine zF ?_;refine qaa (qb8) zB ?_);((try refine zO ?_);(try with_reducible exact Ka))
 .have eH:=qah hH;refine zS eH ?_;(refine zG ?_;refine qaa (qb8) zB ?_);((try refine zO ?_);(try with_reducible exact Ka))
end Go.Proofs.NO
/- The law NodeOwn is proved: whatever is handed in, it answers Y, and what is handed in reads as it did. No condition beyond the given statement's own. -/
namespace Go.Proofs.YtfhhdgkhajkapaaGreat
open Go Go.Idl Go.Proofs Go.Proofs.Tryz
set_option maxRecDepth 100000
open Go.ChangeShapes Go.WideShapes Go.ChangeAt Go.RowKit
def qoB(os:Os)(H:Type)(enc:TypeId × Value->H): ∃(w:World) (tape:Tape) (i:Input),w.os=os/\(w.forCall tape i).Shaped Tryz.checked.prog/\i.vars= []/\Input.okWide Tryz.checked.prog (w.forCall tape i) .any w.heap.size 8 i/\
   Rows.nodeOwnSpec.pre6 enc Tryz.checked.prog Tryz.f8 [] false (w.forCall tape i).memory i.args/\({}:Assume).holds Tryz.checked.prog (lone (Frame.enter Tryz.checked.prog 8 i.args .normal) [] (w.forCall tape i)):=
 ChangeSpec.witness6 (enc:=enc) (C:=Tryz.checked) false ⟨#[],#[.agg #[.int .i64 0, .slice U 0 0, .slice U 0 0, .bool false], .int .i64 0, .slice U 0 0], []⟩ 8 wb wb wb wb
theorem NodeOwn_holds:Rows.NodeOwnSaid:=
 OpenClaim.holds_of_wide 8 Tryz.f8 rfl rfl rfl rfl rfl rfl rfl ⟨rfl,rfl,rfl,rfl,rfl⟩ rfl rfl rfl rfl rfl wb func8 qkT
  (of_decide_eq_true wb) wz
  (λos started H enc _=>qf0 (C:=Tryz.checked) (s:=Rows.nodeOwnSpec) started Tryz.own wb func8
   (qoB os H enc)
   Tryz.laidOut (tb:=4) wb Tryz.underlying4 wb rfl (λds h=>match ds,h with | [_,_,_],_=>rfl)
   (argsOpen_cons qne (λ_=>agg wb) (argsOpen_cons qaX (λ_=>one wb) (argsOpen_cons qnf (λ_=>one wb) (qet))))
   λ⟨a,n,l,_⟩ _=>NO.NodeOwn_pure a n l)
end Go.Proofs.YtfhhdgkhajkapaaGreat
