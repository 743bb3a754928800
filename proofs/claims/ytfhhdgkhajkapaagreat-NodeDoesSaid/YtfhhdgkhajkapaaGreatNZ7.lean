/- Facts leant on. -/
import Derived.Test.YtfhhdgkhajkapaaGreatNWr
import Derived.Test.YtfhhdgkhajkapaaGreatNRl
set_option linter.all false
open True renaming intro->Ka
open List renaming replicate->Kb,mem_of_getElem?->Kc
open Option renaming none->U,some->V
open Bool renaming true->Y
/- The law NodeDoes's closed facts, one by one. -/
namespace Go.Proofs.YtfhhdgkhajkapaaGreat
open Go Go.Idl Go.Proofs Go.Proofs.Tryz
set_option maxRecDepth 100000
open Go.ChangeShapes Go.WideShapes Go.ChangeAt Go.RowKit
def qaq{a b:Bool}(ha:a=Y)(hb:b=Y):(a && b)=Y:=by rw[ha,hb];rfl
def qnV:Rows.nodeDoesRow.wf (OpenSpec.ofChange Rows.nodeDoesSpec)=Y:=wb
def qnW:laidOutB Tryz.checked.prog=Y:=wb
def qnX:mapsRowed Tryz.checked.prog=Y:=wb
def qnY:Tryz.f9.params.all (Tryz.checked.prog.readableRec ·)=Y:=wb
def qnZ:namedTie Tryz.checked.prog Rows.nodeDoesRow.named Rows.nodeDoesSpec.vars=Y:=wb
def qn0:(Rows.nodeDoesRow.stops== [])=Y:=wb
def qn1:(Tryz.checked.prog.stops== [])=Y:=wb
def qn2:(Rows.nodeDoesRow.knobs== [])=Y:=wb
def qn3:(Tryz.checked.prog.stopKnobs== [])=Y:=wb
def qn4:(Rows.nodeDoesRow.inPlace==Tryz.checked.prog.inPlace 9)=Y:=wb
def qlx:(Rows.nodeDoesRow.unfollowed==Tryz.checked.prog.unfollowed 9)=Y:=wb
def qly:(Rows.nodeDoesRow.recurses==Tryz.checked.prog.recurses 9)=Y:=wb
def qlz:(Rows.nodeDoesRow.named==Tryz.checked.prog.varsNamed 9)=Y:=wb
def qlA:(Rows.nodeDoesRow.maps==(Tryz.f9.params.toList++Rows.nodeDoesSpec.plain.varTypes Tryz.checked.prog).any (Tryz.checked.prog.mapsRec ·))=Y:=wb
def qlB:(Rows.nodeDoesRow.ifaces==(Tryz.f9.params.toList++Rows.nodeDoesSpec.plain.varTypes Tryz.checked.prog).any (Tryz.checked.prog.ifacesRec ·))=Y:=wb
def qlC:(Rows.nodeDoesRow.mapsOut==Tryz.checked.prog.mapsAmong Tryz.f9.resultTypes.toList)=Y:=wb
def qlD:(Rows.nodeDoesRow.loops==(Tryz.f9.params.toList++Rows.nodeDoesSpec.plain.varTypes Tryz.checked.prog).any (Tryz.checked.prog.loopsFrom ·))=Y:=wb
def qlE:(Rows.nodeDoesRow.wideKeys==(Tryz.f9.params.toList++Rows.nodeDoesSpec.plain.varTypes Tryz.checked.prog++Tryz.f9.resultTypes.toList).any (Tryz.checked.prog.wideKeysFrom ·))=Y:=wb
def qlF:Rows.nodeDoesSpec.vars.all (Tryz.checked.prog.varReadable ·)=Y:=wb
def qlG:Tryz.f9.resultTypes.all (λt=>Tryz.checked.prog.readableRec t && decide (t < Tryz.checked.prog.types.size))=Y:=wb
def qlH:(Rows.nodeDoesRow.ifacesOut==Tryz.f9.resultTypes.toList.any (Tryz.checked.prog.ifacesRec ·))=Y:=wb
def qlI:(Rows.nodeDoesRow.loopsOut==Tryz.f9.resultTypes.toList.any (Tryz.checked.prog.loopsFrom ·))=Y:=wb
def qlJ:(Rows.nodeDoesRow.plainKeys==Tryz.checked.prog.plainKeys)=Y:=wb
def qlK:Rows.nodeDoesRow.shortTexts.isNone=Y:=wb
def qlL:Tryz.checked.prog.stopsHeard=Y:=wb
def qlM:Tryz.checked.prog.mayEnter=Y:=wb
def qlN:(Rows.nodeDoesRow.lifted==Tryz.checked.prog.liftsFinal)=Y:=wb
def qlO:(Tryz.checked.prog.make==V Rows.nodeDoesRow.make)=Y:=wb
def qlP:(Rows.nodeDoesRow.kinds==(if Rows.nodeDoesRow.domain.isEmpty then [] else Tryz.f9.params.toList.map λt=>match Tryz.checked.prog.underlying t with | some (.int k)=>V k | _=>U))=Y:=wb
def qlQ:(Rows.nodeDoesRow.pinned==Rows.nodeDoesRow.pinnedBy)=Y:=wb
def qlR:(Rows.nodeDoesRow.veiled==(Tryz.f9.params.toList++Rows.nodeDoesSpec.plain.varTypes Tryz.checked.prog++Tryz.f9.resultTypes.toList).any (Tryz.checked.prog.veiledRec ·))=Y:=wb
def qlS:Rows.nodeDoesRow.veiledFits Tryz.checked.prog Tryz.f9.params.toList (Tryz.f9.params.toList++Rows.nodeDoesSpec.plain.varTypes Tryz.checked.prog++Tryz.f9.resultTypes.toList)=Y:=wb
def qjC:joinedFacts Tryz.checked.prog 9 Tryz.f9 Rows.nodeDoesSpec Rows.nodeDoesRow=Y:=qaq (qaq (qaq (qaq (qaq (qaq (qaq (qaq (qaq (qaq (qaq (qaq (qaq (qaq (qaq (qaq (qaq (qaq (qaq (qaq (qaq (qaq (qaq (qaq (qaq (qaq (qaq (qaq (qaq (qaq (qaq (qnV) qnW) qnX) qnY) qnZ) qn0) qn1) qn2) qn3) qn4) qlx) qly) qlz) qlA) qlB) qlC) qlD) qlE) qlF) qlG) qlH) qlI) qlJ) qlK) qlL) qlM) qlN) qlO) qlP) qlQ) qlR) qlS
end Go.Proofs.YtfhhdgkhajkapaaGreat
/- Whatever a node does is as the document says: the walk of NodeDoes. -/
namespace Go.Proofs.NO
open Go Go.Idl Go.Proofs Go.GP Go.Proofs.Tryz
set_option maxHeartbeats 0
set_option maxRecDepth 100000
def qo5(N:Int)(ls:List (Int × Int))(T:List Nd)(ff:Bool)(x:No)(num:Int)(t:Int)(h:NOk N ls T t x)(hl:ls.length<=1000000)(hw:(stOf T x.h).waits.length<=1000):
  Pure prog 53 [lAp N ls T ff,lNo x,sci .i64 num] (.tup [lOus (startP ls ff (stOf T x.h) x.h num).1,sci .i64 (startP ls ff (stOf T x.h) x.h num).2]):=by
 obtain⟨n,j,nd,f⟩:=h.hf;have hP:=qpa N ls T ff x.h n j nd (stOf T x.h) f.hn f.hj f.hx f.hq hl hw f.inl num;clear h f;generalize startP ls ff (stOf T x.h) x.h num=r at *;obtain⟨o,e⟩:=r;refine pcall0 200 (fn:=f53) func53 rfl (by simp[ntmps53]) zB zB λhs=>?_;refine zV ?_;(refine zG ?_;refine qaa (hP) zB ?_);((try refine zO ?_);(try with_reducible exact Ka))
def qny{ls:List (Int × Int)}{ff:Bool}{st:St}{h:Hs}{num:Int}(hw:st.waits.length<=1000):(startP ls ff st h num).1.length<=1000/\ ∀o∈(startP ls ff st h num).1,o.f.ps.length<=1000/\o.f.path.length<=1000000:=by
 unfold startP;split
 .simp
 split
 .simp
 split
 .simp
 .refine⟨by simp only[sendsP,List.length_map];exact hw,λo ho=>?_⟩;obtain⟨w, -,rfl⟩:=List.mem_map.1 ho;simp
def NodeDoes_pure(s0:Sc)(n0:Int)(L:List Op):
  Pure prog 9 [lApp s0,sci .i64 n0,lOps L] (scb Y):=by
 obtain⟨k8,kl,ko⟩:=qnb s0;refine pcall0 200 (fn:=Tryz.f9) func9 rfl (by simp[ntmps9]) zB zB λhs=>?_;refine zV ?_;(refine zG ?_;refine qaa (qfB s0) zB ?_;refine zV ?_);generalize cutSc s0=s at *;have hT:=qit k8 ko;refine zV ?_;(refine zG ?_;refine qaa (qd6 s k8 ko) zB ?_;refine zV ?_);obtain⟨N,ls,T,ff,room,acts⟩:=s;simp only at k8 kl ko hT;(refine zG ?_;refine qaa (qer N ls T hT) zB ?_;refine zV ?_);by_cases hH:TabP N ls T
 .have eH:=qaj hH;(try simp(maxSteps:=2000000) (disch:=omega) only[go_sem,simprocAttr,zD,zE,eH]);have hN:=hH.1.1;obtain⟨m,hm⟩: ∃m:Nat,(m:Int)=if n0 < 0\/N<=n0 then 0 else n0:=by
   split
   .exact⟨0,rfl⟩
   .exact⟨n0.toNat,wa⟩
  have hmN:(m:Int) < N:=by rw[hm];split<;>omega
  have hmT:m < T.length:=by have:=hH.2.1;omega
  have hx:=List.getElem?_eq_getElem hmT;generalize T[m]=nd at hx;have hnew:=NOk.new (qjM hH hx) rfl;have hup0:=UpOk.new ⟨m,nd.start,0,Kb (ins m 0 ls).length [],Kb (outs m 0 ls).length []⟩;refine zN [1,2,3,7] [U,U,V [3,4,6,7],U,U,V [6,7],V [0,1,2,3,4,5,7],V [0,1,2,3,4,5,6],V [],V []] ?_;refine zX (qg6 N ls T ff n0 m nd kl hm hx) ?_;(refine zF ?_;refine qaa (qhS N ls T ff n0 m nd kl hm hx) zB ?_;refine zV ?_);generalize newN ⟨m,nd.start,0,Kb (ins m 0 ls).length [],Kb (outs m 0 ls).length []⟩=x0 at *;refine zP ?_;(refine walk_trim [2,3,7,8,9,10] trivial zL ?_;((try refine zW ?_);(try with_reducible exact Ka)));refine qac 200 200 (λi:Nat × No=>i.1<=L.length/\i.1<=40/\NOk N ls T i.1 i.2/\UpOk i.2)
   (λi=>⟨106, [(2,lOps L),(3, .ptr 0 0 0 0),(7, .ptr 1 0 0 0),(8, .ptr 2 0 0 0),(9, .ptr 3 0 0 0),(10,sci .i64 i.1)], [],4, [(3, .arr 28 0 [cNo i.2]),(2, .arr 28 0 [cNo i.2]),(1, .arr 4 0 [[sci .i64 N, .p (.imm 2 (pr eII ls)), .p (.imm 2 (pr eNd T)),scb ff]]),(0, .arr 4 0 [[sci .i64 N, .p (.imm 2 (pr eII ls)), .p (.imm 2 (pr eNd T)),scb ff]])]⟩) (λi=>40 - i.1) (0,x0) [] ?_ ?_ ?_
  .exact⟨Nat.zero_le _,Nat.zero_le _,hnew,hup0⟩
  .constructor<;>(try simp(maxSteps:=2000000) (disch:=omega) only[go_sem,simprocAttr,zD,zE,Int.natCast_zero])
  .clear hnew hm hmN hmT hx hup0;rintro⟨i,x⟩ ⟨i1,i2,i3,i4⟩;simp only at i1 i2 i3 i4;have gx:=i3.gNo wa;have hRx:=qe3 x gx.g;have hSx:=qd2 x gx;refine zV ?_;by_cases hlt:i < L.length/\i < 40
   .obtain⟨hl1,hl2⟩:=hlt;obtain⟨nn,j,nd',hf⟩:=i3.hf;have hwt:(stOf T x.h).waits.length<=1000:=by
     have:=((ko nd' (Kc hf.hx)).2 _ (Kc hf.hq)).1;omega
    generalize hp:L[i]=p at *;have hDp:=qpp N ls T ff x p i i3 wa wa i4 k8 ko kl hT hwt;have ok:=qpC (ff:=ff) i3 wa wa hwt p;have up:=next_up (ls:=ls) (ff:=ff) (T:=T) i4 p;obtain⟨kind,en,link,⟨f1,f2,⟨f3,f4⟩,f5,f6,f7,f8,f9⟩⟩:=p;have hPr:=qo5 N ls T ff x en i i3 kl hwt;have hSt:=qkY N ls T ff x.h nn j nd' (stOf T x.h) hf.hn hf.hj hf.hx hf.hq kl hwt hf.inl en;obtain⟨sh1,sh2⟩:=qny (ls:=ls) (ff:=ff) (h:=x.h) (num:=en) hwt;have hLo:=qgr _ wa (λo ho=>(sh2 o ho).1);have hRo:=qgn _ wa (λo ho=>⟨by have:=(sh2 o ho).1;omega,(sh2 o ho).2⟩);generalize nextN ls ff T x _=y at *;generalize startP ls ff (stOf T x.h) x.h en=sp at *;obtain⟨so,se⟩:=sp;simp only at hLo hRo;refine zP ?_;refine zN [2,3,7,8,9,10] [U,V [2],U,V [],U] ?_;refine zX hRx ?_;refine zX hSx ?_;(refine zM [2,3,7,8,9,10] ?_;refine zI [U,U,U,U,U,U,U,V [],U,U,U,U,U] ?_);(try simp(maxSteps:=2000000) (disch:=omega) only[go_sem,simprocAttr,zD,zE,eOpN,hp]);refine zX hPr ?_;(refine zM [2,3,7,8,9,10,11,12] ?_;refine zI [U,U,U,U,U,U,U,U,V [],U,U,U,U,U] ?_);(try simp(maxSteps:=2000000) (disch:=omega) only[go_sem,simprocAttr,zD,zE,eOpN,hp]);refine zX hSt ?_;refine zY hLo ?_;refine zY hRo ?_;(refine zM [2,3,7,8,9,10] ?_;refine zI [U,U,U,U,U,U,U,V [12,13],U,U,U,U,V [0,1,2,3,4,5,6,7,8,9,10,11,13],V [0,1,2,3,4,5,6,7,8,9,10,11,12],V [10,11],V [11],U] ?_);(try simp(maxSteps:=2000000) (disch:=omega) only[go_sem,simprocAttr,zD,zE,eOpN,hp]);refine zX hDp ?_;refine⟨(i+1,y), [],⟨hl1,hl2,ok,up⟩,we,?_⟩;constructor<;>((try refine zO ?_);(try with_reducible exact Ka))
   .rcases Nat.lt_or_ge i L.length with hl | hl;all_goals
     refine zP ?_;refine zN [8,9] [U,V [2],U,V [],U,V [],U,U] ?_;refine zX hRx ?_;refine zX hSx ?_;(refine zF ?_;refine qaa (qb8) zB ?_);((try refine zO ?_);(try with_reducible exact Ka))
 .have eH:=qah hH;refine zS eH ?_;(refine zG ?_;refine qaa (qb8) zB ?_);((try refine zO ?_);(try with_reducible exact Ka))
end Go.Proofs.NO
/- The law NodeDoes is proved: whatever is handed in, it answers Y, and what is handed in reads as it did. No condition beyond the given statement's own. -/
namespace Go.Proofs.YtfhhdgkhajkapaaGreat
open Go Go.Idl Go.Proofs Go.Proofs.Tryz
set_option maxRecDepth 100000
open Go.ChangeShapes Go.WideShapes Go.ChangeAt Go.RowKit
def qlT(os:Os)(H:Type)(enc:TypeId × Value->H): ∃(w:World) (tape:Tape) (i:Input),w.os=os/\(w.forCall tape i).Shaped Tryz.checked.prog/\i.vars= []/\Input.okWide Tryz.checked.prog (w.forCall tape i) .any w.heap.size 9 i/\
   Rows.nodeDoesSpec.pre6 enc Tryz.checked.prog Tryz.f9 [] false (w.forCall tape i).memory i.args/\({}:Assume).holds Tryz.checked.prog (lone (Frame.enter Tryz.checked.prog 9 i.args .normal) [] (w.forCall tape i)):=
 ChangeSpec.witness6 (enc:=enc) (C:=Tryz.checked) false ⟨#[],#[.agg #[.int .i64 0, .slice U 0 0, .slice U 0 0, .bool false], .int .i64 0, .slice U 0 0], []⟩ 8 wb wb wb wb
theorem NodeDoes_holds:Rows.NodeDoesSaid:=
 OpenClaim.holds_of_wide 9 Tryz.f9 rfl rfl rfl rfl rfl rfl rfl ⟨rfl,rfl,rfl,rfl,rfl⟩ rfl rfl rfl rfl rfl wb func9 qjC
  (of_decide_eq_true wb) wz
  (λos started H enc _=>qf0 (C:=Tryz.checked) (s:=Rows.nodeDoesSpec) started Tryz.own wb func9
   (qlT os H enc)
   Tryz.laidOut (tb:=4) wb Tryz.underlying4 wb rfl (λds h=>match ds,h with | [_,_,_],_=>rfl)
   (argsOpen_cons qne (λ_=>agg wb) (argsOpen_cons qaX (λ_=>one wb) (argsOpen_cons qnf (λ_=>one wb) (qet))))
   λ⟨a,n,l,_⟩ _=>NO.NodeDoes_pure a n l)
end Go.Proofs.YtfhhdgkhajkapaaGreat
