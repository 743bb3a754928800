/- Facts leant on. -/
import Derived.Test.YtfhhdgkhajkapaaGreatIdRc
import Derived.Test.YtfhhdgkhajkapaaGreatIdNl
set_option linter.all false
open True renaming intro->Ka
open List renaming map_nil->Kb,getElem_mem->Kc,take_succ_eq_append_getElem->Kd,map_cons->Ke,take_of_length_le->Kf,length_cons->Kg,take_length->Kh,drop_eq_getElem_cons->Ki,length_drop->Kj,drop_eq_nil_of_le->Kk,length_take->Kl
open Int renaming natCast_zero->Km
open Option renaming none->U
/- Pieces with lists of their own. -/
namespace Go.Proofs.NO
open Go Go.Idl Go.Proofs Go.Proofs.Tryz
set_option maxHeartbeats 0
set_option maxRecDepth 100000
def CloneI_spec(l:List Int)(hn:l.length<=1000000):Pure prog 219 [lI l] (lI l):=by
 cases l with
 | nil=>
   refine pcall0 200 (fn:=f219) func219 rfl vv zB zB λhs=>?_;(try simp only[go_sem,simprocAttr,pr,Kb]);refine qdp (sz:=1) (rows:= []) rfl wb wh λb hb=>vc_sound _ 200 _ _ ?_;cases b<;>((try refine zW ?_);(try with_reducible exact Ka))
 | cons a r=>
   have e:pr eI (a::r)=eI a::pr eI r:=rfl;rw[Kg] at hn;refine pcall0 200 (fn:=f219) func219 rfl vv zB zB λhs=>?_;(try simp(disch:=omega) only[go_sem,simprocAttr,zD,zE,e])
def qnN(l:List (Int × Int))(hn:l.length<=1000000):Pure prog 229 [lII l] (lII l):=by
 cases l with
 | nil=>
   refine pcall0 200 (fn:=f229) func229 rfl vT zB zB λhs=>?_;(try simp only[go_sem,simprocAttr,pr,Kb]);refine qdp (sz:=2) (rows:= []) rfl wb wh λb hb=>vc_sound _ 200 _ _ ?_;cases b<;>((try refine zW ?_);(try with_reducible exact Ka))
 | cons a r=>
   have e:pr eII (a::r)=eII a::pr eII r:=rfl;rw[Kg] at hn;refine pcall0 200 (fn:=f229) func229 rfl vT zB zB λhs=>?_;(try simp(disch:=omega) only[go_sem,simprocAttr,zD,zE,e])
abbrev cM(l:List (List (Int × Int))):IBlk:= .arr 1 0 [[lMs l]]
abbrev cL(l:List (List Int)):IBlk:= .arr 1 0 [[lLs l]]
def qqX(x:List (Int × Int))(r:List (List (Int × Int)))(hx:x.length<=1000000)(hr:r.length<=1000000):PG prog 284 [.ptr 0 0 0 0] [cM (x::r)] 0 (lII x) [(0,cM r)]:=by
 refine pg_of 200 (fn:=f284) func284 rfl (by simp[ntmps284]) 1 rfl zC zC zC zC zC λhs=>?_;refine zV ?_;(try simp(disch:=omega) only[go_sem,simprocAttr,zD,zE,eMs]);(refine zG ?_;refine qaa (qnN x hx) zB ?_);(try simp(disch:=omega) only[go_sem,simprocAttr,zD,zE,eMs,Nat.add_sub_cancel,Kh])
def qqW(x:List Int)(r:List (List Int))(hx:x.length<=1000000)(hr:r.length<=1000000):PG prog 286 [.ptr 0 0 0 0] [cL (x::r)] 0 (lI x) [(0,cL r)]:=by
 refine pg_of 200 (fn:=f286) func286 rfl (by simp[ntmps286]) 1 rfl zC zC zC zC zC λhs=>?_;refine zV ?_;(try simp(disch:=omega) only[go_sem,simprocAttr,zD,zE,eLs]);(refine zG ?_;refine qaa (CloneI_spec x hx) zB ?_);(try simp(disch:=omega) only[go_sem,simprocAttr,zD,zE,eLs,Nat.add_sub_cancel,Kh])
def qo2(l:List (List (Int × Int)))(hl: ∀x∈l,x.length<=1000000)(hn:l.length<=1000000):
  PG prog 283 [sci .i64 l.length, .clo (.func 284) [] [.ptr 0 0 0 0]] [cM l] 0 (lMs l) [(0,cM [])]:=by
 refine pg_of 200 (fn:=f283) func283 rfl (by simp[ntmps283]) 1 rfl zC zC zC zC zC λhs=>?_;refine zV ?_;refine walk_own 5 1 trivial rfl (.inr rfl) ?_;(refine walk_trim [1,5,6,7] trivial zL ?_;((try refine zW ?_);(try with_reducible exact Ka)));refine qac 200 200 (λi:Nat × Nat × List (List (Int × Int))=>i.1<=l.length/\i.2.2=l.take i.1)
  (λi=>⟨16, [(1, .clo (.func 284) [] [.ptr 0 0 0 0]),(5, .ref 1 i.2.1 0 i.2.2.length),(6,sci .i64 l.length),(7,sci .i64 i.1)], [],2, [(1, .arr 1 i.2.1 (ir eMs i.2.2)),(0,cM (l.drop i.1))]⟩) (λi=>l.length - i.1) (0,0, []) [] ?_ ?_ ?_
 .simp
 .constructor<;>(try simp(disch:=omega) only[go_sem,simprocAttr,zD,zE,Km])
 .rintro⟨i,g,acc⟩ ⟨h1,h3⟩;simp only at h1 h3;have hal:acc.length=i:=wP
  refine zV ?_;by_cases hl':i < l.length
  .have e:l.drop i=l[i]::l.drop (i+1):=Ki hl';refine zS e ?_;(refine at_g 200 ?_;refine zW ?_;refine callG_of [0] (qqX l[i] (l.drop (i+1)) (hl _ (Kc hl')) (by rw[Kj];omega)) zU ?_);(try simp(disch:=omega) only[go_sem,simprocAttr,zD,zE,eMs]);refine⟨(i+1,g+1,acc++ [l[i]]), [],⟨hl',?_⟩,?_,?_⟩
   .simp only[h3];rw[Kd hl']
   .simp only;omega
   .constructor<;>(try simp(disch:=omega) only[go_sem,simprocAttr,zD,zE,eMs,ir_snoc,Ke,Kb])
  .have e:l.drop i= []:=Kk wa;rw[Kf wa] at h3;(try simp(disch:=omega) only[go_sem,simprocAttr,zD,zE,h3,e])
def qo1(l:List (List Int))(hl: ∀x∈l,x.length<=1000000)(hn:l.length<=1000000):
  PG prog 285 [sci .i64 l.length, .clo (.func 286) [] [.ptr 0 0 0 0]] [cL l] 0 (lLs l) [(0,cL [])]:=by
 refine pg_of 200 (fn:=f285) func285 rfl (by simp[ntmps285]) 1 rfl zC zC zC zC zC λhs=>?_;refine zV ?_;refine walk_own 5 1 trivial rfl (.inr rfl) ?_;(refine walk_trim [1,5,6,7] trivial zL ?_;((try refine zW ?_);(try with_reducible exact Ka)));refine qac 200 200 (λi:Nat × Nat × List (List Int)=>i.1<=l.length/\i.2.2=l.take i.1)
  (λi=>⟨16, [(1, .clo (.func 286) [] [.ptr 0 0 0 0]),(5, .ref 1 i.2.1 0 i.2.2.length),(6,sci .i64 l.length),(7,sci .i64 i.1)], [],2, [(1, .arr 1 i.2.1 (ir eLs i.2.2)),(0,cL (l.drop i.1))]⟩) (λi=>l.length - i.1) (0,0, []) [] ?_ ?_ ?_
 .simp
 .constructor<;>(try simp(disch:=omega) only[go_sem,simprocAttr,zD,zE,Km])
 .rintro⟨i,g,acc⟩ ⟨h1,h3⟩;simp only at h1 h3;have hal:acc.length=i:=wP
  refine zV ?_;by_cases hl':i < l.length
  .have e:l.drop i=l[i]::l.drop (i+1):=Ki hl';refine zS e ?_;(refine at_g 200 ?_;refine zW ?_;refine callG_of [0] (qqW l[i] (l.drop (i+1)) (hl _ (Kc hl')) (by rw[Kj];omega)) zU ?_);(try simp(disch:=omega) only[go_sem,simprocAttr,zD,zE,eLs]);refine⟨(i+1,g+1,acc++ [l[i]]), [],⟨hl',?_⟩,?_,?_⟩
   .simp only[h3];rw[Kd hl']
   .simp only;omega
   .constructor<;>(try simp(disch:=omega) only[go_sem,simprocAttr,zD,zE,eLs,ir_snoc,Ke,Kb])
  .have e:l.drop i= []:=Kk wa;rw[Kf wa] at h3;(try simp(disch:=omega) only[go_sem,simprocAttr,zD,zE,h3,e])
def qhc(l:List (List (Int × Int)))(hl: ∀x∈l,x.length<=1000000)(hn:l.length<=1000000):Pure prog 227 [lMs l] (lMs l):=by
 refine pcall0 200 (fn:=f227) func227 rfl (by simp[ntmps227]) zB zB λhs=>?_;refine zV ?_;(refine at_g 200 ?_;refine zW ?_;refine callG_of [0] (qo2 l hl hn) zU ?_;((try refine zW ?_);(try with_reducible exact Ka)))
def qeW(l:List (List Int))(hl: ∀x∈l,x.length<=1000000)(hn:l.length<=1000000):Pure prog 228 [lLs l] (lLs l):=by
 refine pcall0 200 (fn:=f228) func228 rfl (by simp[ntmps228]) zB zB λhs=>?_;refine zV ?_;(refine at_g 200 ?_;refine zW ?_;refine callG_of [0] (qo1 l hl hn) zU ?_;((try refine zW ?_);(try with_reducible exact Ka)))
structure gPc(p:Pc):Prop where
 sent:p.sent.length<=1000000
 inn:p.inn.length<=1000000
 out:p.out.length<=1000000
 inns: ∀x∈p.inn,x.length<=1000000
 outs: ∀x∈p.out,x.length<=1000000
def quc(p:Pc):gPc (qfM p):=by
 have key: ∀ {α:Type} (l:List (List α)),∀x∈(l.take 7).map (·.take 20),x.length<=1000000:=by
  intro α l x hx;obtain⟨y,_,rfl⟩:=List.mem_map.1 hx;simp only[Kl];omega
 refine⟨?_,?_,?_,key _,key _⟩<;>simp only[qfM,List.length_map,Kl]<;>omega
def qmh(p:Pc)(h:gPc p):Pure prog 170 [lPc p] (lPc p):=by
 obtain⟨h1,h2,h3,h4,h5⟩:=h;refine pcall0 200 (fn:=f170) func170 rfl vw zB zB λhs=>?_;refine zV ?_;(refine zM [1,2,75] ?_;refine zI [U,U,U,U,U,U,U,U,some [0,1,2,3,4,5,9,10,12,13],U,U,some [0,1,2,3,4,5,12,13],U,U,some [0,1,2,3,4,5],U,some []] ?_);refine zV ?_;(refine zF ?_;refine qaa (CloneI_spec _ h1) zB ?_);refine zV ?_;(refine zF ?_;refine qaa (qhc _ h4 h2) zB ?_);refine zV ?_;(refine zF ?_;refine qaa (qeW _ h5 h3) zB ?_);((try refine zO ?_);(try with_reducible exact Ka))
def qkP(l:List Pc)(hl: ∀p∈l,gPc p)(hn:l.length<=1000):Pure prog 297 [lPs l, .p (.sc (.func (.func 170) #[] #[]))] (lPs l):=by
 refine pcall0 200 (fn:=f297) func297 rfl (by simp[ntmps297]) zB zB λhs=>?_;refine zV ?_;refine walk_own 5 6 trivial rfl (.inr rfl) ?_;(refine walk_trim [1,5,8,9,10] trivial zL ?_;((try refine zW ?_);(try with_reducible exact Ka)));refine qac 200 200 (λi:Nat × Nat × List Pc=>i.1<=l.length/\i.2.2=l.take i.1)
  (λi=>⟨22, [(1, .p (.sc (.func (.func 170) #[] #[]))),(5, .ref 0 i.2.1 0 i.2.2.length),(8,lPs l),(9,sci .i64 l.length),(10,sci .i64 i.1)], [],1, [(0, .arr 6 i.2.1 (ir ePc i.2.2))]⟩) (λi=>l.length - i.1) (0,0, []) [] ?_ ?_ ?_
 .simp
 .constructor<;>(try simp(disch:=omega) only[go_sem,simprocAttr,zD,zE,Km])
 .rintro⟨i,g,acc⟩ ⟨h1,h3⟩;simp only at h1 h3;have hal:acc.length=i:=wP
  refine zV ?_;by_cases hl':i < l.length
  ·(try simp(disch:=omega) only[go_sem,simprocAttr,zD,zE,ePc]);(refine zG ?_;refine qaa (qmh l[i] (hl _ (Kc hl'))) zB ?_);(try simp(disch:=omega) only[go_sem,simprocAttr,zD,zE,ePc]);refine⟨(i+1,g+1,acc++ [l[i]]), [1],⟨hl',?_⟩,?_,?_⟩
   .simp only[h3];rw[Kd hl']
   .simp only;omega
   .constructor<;>(try simp(disch:=omega) only[go_sem,simprocAttr,zD,zE,ePc,ir_snoc,Ke,Kb])
  .rw[Kf wa] at h3;(try simp(disch:=omega) only[go_sem,simprocAttr,zD,zE,h3])
structure Hs where
 node:Int
 state:Int
 steps:Int
 inn:List (List (Int × Int))
 out:List (List Int)
abbrev lHs(h:Hs):IV:= .agg [sci .i64 h.node,sci .i64 h.state,sci .i64 h.steps,lMs h.inn,lLs h.out]
abbrev nil0:IV:= .p (.sc (.slice U 0 0))
abbrev qfw(h:Hs):IV:= .agg [sci .i64 h.node,sci .i64 h.state,sci .i64 h.steps,nil0,lMs h.inn,lLs h.out]
def qej(h:Hs):Pure prog 169 [lHs h] (qfw h):=by
 refine pcall0 200 (fn:=f169) func169 rfl (by simp[ntmps169]) zB zB λhs=>?_;(repeat(first | ((refine zW ?_;try with_reducible exact Ka))))
end Go.Proofs.NO
namespace Go.Idl
variable{P:Program}{h0:IH}
section
variable{Q:Exit->qab->Prop}{k:List It}{all:Array Oper}{r:List Oper}{dst:Option Tmp}{ty:TypeId}{pos:String}{aft:Array Edge}{N:Nat}{s:List (Nat × IV)}{d:List IDef}{nx:Nat}{l:List (Nat × IBlk)}
 {g:Option (Nat × Bool)} {f:Operand} {args:List Operand} {ts:List TypeId} {K:qab->List FP->Prop} {acc:List FP}
def qfG(n)
  (h:qav (qap (ev s) f args) (λq=>(qao all s ⟨dst, .call {callee:= .value f,args:=⟨args⟩,argTypes:=⟨ts⟩},ty,pos,aft,g⟩=some true/\fnOk P q.1=true/\dOk N dst=true)/\
   qcv P q.1 q.2 (look (l++h0.m)) True λx _=>vc P h0 Q n (.ops all r::k) ⟨N,putS dst x s,d,nx,l⟩) False):
  IRun P h0 (.ops all (⟨dst, .call {callee:= .value f,args:=⟨args⟩,argTypes:=⟨ts⟩},ty,pos,aft,g⟩::r)::k) ⟨N,s,d,nx,l⟩ Q:=by
 cases a:qap (ev s) f args with
 | none=>rw[a] at h;exact h.elim
 | some q=>
   rw[a] at h;obtain⟨⟨b,c,e⟩,i⟩:=h;obtain⟨x,R,p,o,j,m⟩:=i trivial;exact qnH n a p j b c e m
def qgB
  (h:qav (qap (ev s) f args) (λq=>(qao all s ⟨dst, .call {callee:= .value f,args:=⟨args⟩,argTypes:=⟨ts⟩},ty,pos,aft,g⟩=some true/\fnOk P q.1=true/\dOk N dst=true)/\
   qcv P q.1 q.2 (look (l++h0.m)) True λx R=>dvc P h0 all K r ⟨N,putS dst x s,d,nx,l⟩ (acc++ [(R, [])])) False):
  DRun P h0 all (⟨dst, .call {callee:= .value f,args:=⟨args⟩,argTypes:=⟨ts⟩},ty,pos,aft,g⟩::r) ⟨N,s,d,nx,l⟩ acc K:=by
 cases a:qap (ev s) f args with
 | none=>rw[a] at h;exact h.elim
 | some q=>
   rw[a] at h;obtain⟨⟨b,c,e⟩,i⟩:=h;obtain⟨x,R,p,j,m,n⟩:=i trivial;exact qjx a p m b c e j n
end
end Go.Idl
/- Pieces with lists of their own; messages compared by the document. -/
namespace Go.Proofs.NO
open Go Go.Idl Go.Proofs Go.Proofs.Tryz
set_option maxHeartbeats 0
set_option maxRecDepth 100000
def CloneI0_spec:Pure prog 219 [nil0] nil0:=by
 refine pcall0 200 (fn:=f219) func219 rfl vv zB zB λhs=>?_;((try refine zW ?_);(try with_reducible exact Ka))
structure gHs(p:Hs):Prop where
 inn:p.inn.length<=1000000
 out:p.out.length<=1000000
 inns: ∀x∈p.inn,x.length<=1000000
 outs: ∀x∈p.out,x.length<=1000000
def qj0(p:Hs)(h:gHs p):Pure prog 170 [qfw p] (qfw p):=by
 obtain⟨h2,h3,h4,h5⟩:=h;refine pcall0 200 (fn:=f170) func170 rfl vw zB zB λhs=>?_;refine zV ?_;(refine zM [1,2,75] ?_;refine zI [U,U,U,U,U,U,U,U,some [0,1,2,3,4,5,9,10,12,13],U,U,some [0,1,2,3,4,5,12,13],U,U,some [0,1,2,3,4,5],U,some []] ?_);refine zV ?_;(refine qgB ?_;refine zW ?_;refine qaa (CloneI0_spec) zB ?_);refine zV ?_;(refine zF ?_;refine qaa (qhc _ h4 h2) zB ?_);refine zV ?_;(refine zF ?_;refine qaa (qeW _ h5 h3) zB ?_);((try refine zO ?_);(try with_reducible exact Ka))
end Go.Proofs.NO
