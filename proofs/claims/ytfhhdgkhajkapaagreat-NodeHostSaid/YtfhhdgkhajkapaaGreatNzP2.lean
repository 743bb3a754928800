/- Facts leant on. -/
import Derived.Test.YtfhhdgkhajkapaaGreatNPC
import Derived.Test.YtfhhdgkhajkapaaGreatIdRc
import Derived.Test.YtfhhdgkhajkapaaGreatIdNl
set_option linter.all false
open True renaming intro->Ka
open List renaming map_nil->Kb,getElem_mem->Kc,take_succ_eq_append_getElem->Kd,map_cons->Ke,take_of_length_le->Kf,length_cons->Kg,take_length->Kh,drop_eq_getElem_cons->Ki,length_drop->Kj,drop_eq_nil_of_le->Kk,length_take->Kl
open Int renaming natCast_zero->Km
open Option renaming none->U
/- Pieces with lists of their own. -/
namespace Go.Proofs.NO
open Go Go.Idl Go.Proofs Go.Proofs.Tryz
set_option maxHeartbeats 0
set_option maxRecDepth 100000
def CloneI_spec(l:List Int)(hn:l.length<=1000000):Pure prog 219 [lI l] (lI l):=by
 cases l with
 | nil=>
   refine zAa func219 λhs=>?_;(try simp only[go_sem,simprocAttr,pr,Kb]);refine qdc (sz:=1) (rows:= []) rfl we wh λb hb=>vc_sound _ 200 _ _ ?_;cases b<;>exact zT
 | cons a r=>
   have e:pr eI (a::r)=eI a::pr eI r:=rfl;rw[Kg] at hn;refine zAa func219 λhs=>?_;exact zy e
def qmk(l:List (Int × Int))(hn:l.length<=1000000):Pure prog 229 [lII l] (lII l):=by
 cases l with
 | nil=>
   refine zAa func229 λhs=>?_;(try simp only[go_sem,simprocAttr,pr,Kb]);refine qdc (sz:=2) (rows:= []) rfl we wh λb hb=>vc_sound _ 200 _ _ ?_;cases b<;>exact zT
 | cons a r=>
   have e:pr eII (a::r)=eII a::pr eII r:=rfl;rw[Kg] at hn;refine zAa func229 λhs=>?_;exact zy e
abbrev cM(l:List (List (Int × Int))):IBlk:= .arr 1 0 [[lMs l]]
abbrev cL(l:List (List Int)):IBlk:= .arr 1 0 [[lLs l]]
def qoL(x:List (Int × Int))(r:List (List (Int × Int)))(hx:x.length<=1000000)(hr:r.length<=1000000):PG prog 284 [.ptr 0 0 0 0] [cM (x::r)] 0 (lII x) [(0,cM r)]:=by
 refine zAh func284 1 λhs=>?_;(try simp(disch:=omega) only[go_sem,simprocAttr,zD,zE,eMs]);(refine zG ?_;refine qaa (qmk x hx) zB ?_);(try simp(disch:=omega) only[go_sem,simprocAttr,zD,zE,eMs,Nat.add_sub_cancel,Kh])
def qoK(x:List Int)(r:List (List Int))(hx:x.length<=1000000)(hr:r.length<=1000000):PG prog 286 [.ptr 0 0 0 0] [cL (x::r)] 0 (lI x) [(0,cL r)]:=by
 refine zAh func286 1 λhs=>?_;(try simp(disch:=omega) only[go_sem,simprocAttr,zD,zE,eLs]);(refine zG ?_;refine qaa (CloneI_spec x hx) zB ?_);(try simp(disch:=omega) only[go_sem,simprocAttr,zD,zE,eLs,Nat.add_sub_cancel,Kh])
def qmX(l:List (List (Int × Int)))(hl: ∀x∈l,x.length<=1000000)(hn:l.length<=1000000):
  PG prog 283 [sci .i64 l.length, .clo (.func 284) [] [.ptr 0 0 0 0]] [cM l] 0 (lMs l) [(0,cM [])]:=by
 refine zAh func283 1 λhs=>?_;refine walk_own 5 1 trivial rfl (.inr rfl) ?_;refine zM [1,5,6,7] ?_;refine qac 200 200 (λi:Nat × Nat × List (List (Int × Int))=>i.1<=l.length/\i.2.2=l.take i.1)
  (λi=>⟨16, [(1, .clo (.func 284) [] [.ptr 0 0 0 0]),(5, .ref 1 i.2.1 0 i.2.2.length),(6,sci .i64 l.length),(7,sci .i64 i.1)], [],2, [(1, .arr 1 i.2.1 (ir eMs i.2.2)),(0,cM (l.drop i.1))]⟩) (λi=>l.length - i.1) (0,0, []) [] ?_ ?_ ?_
 .simp
 .exact zc @Km
 .rintro⟨i,g,acc⟩ ⟨h1,h3⟩;simp only at h1 h3;have hal:acc.length=i:=wD
  refine zV ?_;by_cases hl':i < l.length
  .have e:l.drop i=l[i]::l.drop (i+1):=Ki hl';refine zS e ?_;(refine at_g 200 ?_;refine zW ?_;refine callG_of [0] (qoL l[i] (l.drop (i+1)) (hl _ (Kc hl')) (by rw[Kj];omega)) zU ?_);(try simp(disch:=omega) only[go_sem,simprocAttr,zD,zE,eMs]);refine⟨(i+1,g+1,acc++ [l[i]]), [],⟨hl',?_⟩,?_,?_⟩
   .simp only[h3];rw[Kd hl']
   .simp only;omega
   .constructor<;>(try simp(disch:=omega) only[go_sem,simprocAttr,zD,zE,eMs,ir_snoc,Ke,Kb])
  .have e:l.drop i= []:=Kk wa;rw[Kf wa] at h3;exact zy (zQ h3 e)
def qmW(l:List (List Int))(hl: ∀x∈l,x.length<=1000000)(hn:l.length<=1000000):
  PG prog 285 [sci .i64 l.length, .clo (.func 286) [] [.ptr 0 0 0 0]] [cL l] 0 (lLs l) [(0,cL [])]:=by
 refine zAh func285 1 λhs=>?_;refine walk_own 5 1 trivial rfl (.inr rfl) ?_;refine zM [1,5,6,7] ?_;refine qac 200 200 (λi:Nat × Nat × List (List Int)=>i.1<=l.length/\i.2.2=l.take i.1)
  (λi=>⟨16, [(1, .clo (.func 286) [] [.ptr 0 0 0 0]),(5, .ref 1 i.2.1 0 i.2.2.length),(6,sci .i64 l.length),(7,sci .i64 i.1)], [],2, [(1, .arr 1 i.2.1 (ir eLs i.2.2)),(0,cL (l.drop i.1))]⟩) (λi=>l.length - i.1) (0,0, []) [] ?_ ?_ ?_
 .simp
 .exact zc @Km
 .rintro⟨i,g,acc⟩ ⟨h1,h3⟩;simp only at h1 h3;have hal:acc.length=i:=wD
  refine zV ?_;by_cases hl':i < l.length
  .have e:l.drop i=l[i]::l.drop (i+1):=Ki hl';refine zS e ?_;(refine at_g 200 ?_;refine zW ?_;refine callG_of [0] (qoK l[i] (l.drop (i+1)) (hl _ (Kc hl')) (by rw[Kj];omega)) zU ?_);(try simp(disch:=omega) only[go_sem,simprocAttr,zD,zE,eLs]);refine⟨(i+1,g+1,acc++ [l[i]]), [],⟨hl',?_⟩,?_,?_⟩
   .simp only[h3];rw[Kd hl']
   .simp only;omega
   .constructor<;>(try simp(disch:=omega) only[go_sem,simprocAttr,zD,zE,eLs,ir_snoc,Ke,Kb])
  .have e:l.drop i= []:=Kk wa;rw[Kf wa] at h3;exact zy (zQ h3 e)
def qgz(l:List (List (Int × Int)))(hl: ∀x∈l,x.length<=1000000)(hn:l.length<=1000000):Pure prog 227 [lMs l] (lMs l):=by
 refine zAb func227 λhs=>?_;(refine at_g 200 ?_;refine zW ?_;refine callG_of [0] (qmX l hl hn) zU ?_;exact zT)
def qex(l:List (List Int))(hl: ∀x∈l,x.length<=1000000)(hn:l.length<=1000000):Pure prog 228 [lLs l] (lLs l):=by
 refine zAb func228 λhs=>?_;(refine at_g 200 ?_;refine zW ?_;refine callG_of [0] (qmW l hl hn) zU ?_;exact zT)
structure gPc(p:Pc):Prop where
 sent:p.sent.length<=1000000
 inn:p.inn.length<=1000000
 out:p.out.length<=1000000
 inns: ∀x∈p.inn,x.length<=1000000
 outs: ∀x∈p.out,x.length<=1000000
def qr5(p:Pc):gPc (qfi p):=by
 have key: ∀ {α:Type} (l:List (List α)),∀x∈(l.take 7).map (·.take 20),x.length<=1000000:=by
  intro α l x hx;obtain⟨y,_,rfl⟩:=List.mem_map.1 hx;simp only[Kl];omega
 refine⟨?_,?_,?_,key _,key _⟩<;>simp only[qfi,List.length_map,Kl]<;>omega
def qkS(p:Pc)(h:gPc p):Pure prog 170 [lPc p] (lPc p):=by
 obtain⟨h1,h2,h3,h4,h5⟩:=h;refine zAb func170 λhs=>?_;(refine zM [1,2,75] ?_;refine zI [U,U,U,U,U,U,U,U,some [0,1,2,3,4,5,9,10,12,13],U,U,some [0,1,2,3,4,5,12,13],U,U,some [0,1,2,3,4,5],U,some []] ?_);refine zV ?_;(refine zF ?_;refine qaa (CloneI_spec _ h1) zB ?_);refine zV ?_;(refine zF ?_;refine qaa (qgz _ h4 h2) zB ?_);refine zV ?_;(refine zF ?_;refine qaa (qex _ h5 h3) zB ?_);exact zU
def qjX(l:List Pc)(hl: ∀p∈l,gPc p)(hn:l.length<=1000):Pure prog 297 [lPs l, .p (.sc (.func (.func 170) #[] #[]))] (lPs l):=by
 refine zAb func297 λhs=>?_;refine walk_own 5 6 trivial rfl (.inr rfl) ?_;refine zM [1,5,8,9,10] ?_;refine qac 200 200 (λi:Nat × Nat × List Pc=>i.1<=l.length/\i.2.2=l.take i.1)
  (λi=>⟨22, [(1, .p (.sc (.func (.func 170) #[] #[]))),(5, .ref 0 i.2.1 0 i.2.2.length),(8,lPs l),(9,sci .i64 l.length),(10,sci .i64 i.1)], [],1, [(0, .arr 6 i.2.1 (ir ePc i.2.2))]⟩) (λi=>l.length - i.1) (0,0, []) [] ?_ ?_ ?_
 .simp
 .exact zc @Km
 .rintro⟨i,g,acc⟩ ⟨h1,h3⟩;simp only at h1 h3;have hal:acc.length=i:=wD
  refine zV ?_;by_cases hl':i < l.length
  ·(try simp(disch:=omega) only[go_sem,simprocAttr,zD,zE,ePc]);(refine zG ?_;refine qaa (qkS l[i] (hl _ (Kc hl'))) zB ?_);(try simp(disch:=omega) only[go_sem,simprocAttr,zD,zE,ePc]);refine⟨(i+1,g+1,acc++ [l[i]]), [1],⟨hl',?_⟩,?_,?_⟩
   .simp only[h3];rw[Kd hl']
   .simp only;omega
   .constructor<;>(try simp(disch:=omega) only[go_sem,simprocAttr,zD,zE,ePc,ir_snoc,Ke,Kb])
  .rw[Kf wa] at h3;exact zy h3
structure Hs where
 node:Int
 state:Int
 steps:Int
 inn:List (List (Int × Int))
 out:List (List Int)
abbrev lHs(h:Hs):IV:= .agg [sci .i64 h.node,sci .i64 h.state,sci .i64 h.steps,lMs h.inn,lLs h.out]
abbrev nil0:IV:= .p (.sc (.slice U 0 0))
abbrev qe4(h:Hs):IV:= .agg [sci .i64 h.node,sci .i64 h.state,sci .i64 h.steps,nil0,lMs h.inn,lLs h.out]
def qd2(h:Hs):Pure prog 169 [lHs h] (qe4 h):=by
 refine zAa func169 λhs=>?_;(repeat(first | ((refine zW ?_;try with_reducible exact Ka))))
end Go.Proofs.NO
namespace Go.Idl
variable{P:Program}{h0:IH}
section
variable{Q:Exit->qab->Prop}{k:List It}{all:Array Oper}{r:List Oper}{dst:Option Tmp}{ty:TypeId}{pos:String}{aft:Array Edge}{N:Nat}{s:List (Nat × IV)}{d:List IDef}{nx:Nat}{l:List (Nat × IBlk)}
 {g:Option (Nat × Bool)} {f:Operand} {args:List Operand} {ts:List TypeId} {K:qab->List FP->Prop} {acc:List FP}
theorem qk7(n)
  (h:qas (qao (ev s) f args) (λq=>(qam all s ⟨dst, .call {callee:= .value f,args:=⟨args⟩,argTypes:=⟨ts⟩},ty,pos,aft,g⟩=some true/\fnOk P q.1=true/\dOk N dst=true)/\
   qcj P q.1 q.2 (look (l++h0.m)) True λx _=>vc P h0 Q n (.ops all r::k) ⟨N,putS dst x s,d,nx,l⟩) False):
  IRun P h0 (.ops all (⟨dst, .call {callee:= .value f,args:=⟨args⟩,argTypes:=⟨ts⟩},ty,pos,aft,g⟩::r)::k) ⟨N,s,d,nx,l⟩ Q:=by
 cases a:qao (ev s) f args with
 | none=>rw[a] at h;exact h.elim
 | some q=>
   rw[a] at h;obtain⟨⟨b,c,e⟩,i⟩:=h;obtain⟨x,R,p,o,j,m⟩:=i trivial;exact qmf n a p j b c e m
theorem qf0
  (h:qas (qao (ev s) f args) (λq=>(qam all s ⟨dst, .call {callee:= .value f,args:=⟨args⟩,argTypes:=⟨ts⟩},ty,pos,aft,g⟩=some true/\fnOk P q.1=true/\dOk N dst=true)/\
   qcj P q.1 q.2 (look (l++h0.m)) True λx R=>dvc P h0 all K r ⟨N,putS dst x s,d,nx,l⟩ (acc++ [(R, [])])) False):
  DRun P h0 all (⟨dst, .call {callee:= .value f,args:=⟨args⟩,argTypes:=⟨ts⟩},ty,pos,aft,g⟩::r) ⟨N,s,d,nx,l⟩ acc K:=by
 cases a:qao (ev s) f args with
 | none=>rw[a] at h;exact h.elim
 | some q=>
   rw[a] at h;obtain⟨⟨b,c,e⟩,i⟩:=h;obtain⟨x,R,p,j,m,n⟩:=i trivial;exact qiJ a p m b c e j n
end
end Go.Idl
/- Pieces with lists of their own; messages compared by the document. -/
namespace Go.Proofs.NO
open Go Go.Idl Go.Proofs Go.Proofs.Tryz
set_option maxHeartbeats 0
set_option maxRecDepth 100000
def CloneI0_spec:Pure prog 219 [nil0] nil0:=by
 refine zAa func219 λhs=>?_;exact zT
structure gHs(p:Hs):Prop where
 inn:p.inn.length<=1000000
 out:p.out.length<=1000000
 inns: ∀x∈p.inn,x.length<=1000000
 outs: ∀x∈p.out,x.length<=1000000
def qja(p:Hs)(h:gHs p):Pure prog 170 [qe4 p] (qe4 p):=by
 obtain⟨h2,h3,h4,h5⟩:=h;refine zAb func170 λhs=>?_;(refine zM [1,2,75] ?_;refine zI [U,U,U,U,U,U,U,U,some [0,1,2,3,4,5,9,10,12,13],U,U,some [0,1,2,3,4,5,12,13],U,U,some [0,1,2,3,4,5],U,some []] ?_);refine zV ?_;(refine qf0 ?_;refine zW ?_;refine qaa (CloneI0_spec) zB ?_);refine zV ?_;(refine zF ?_;refine qaa (qgz _ h4 h2) zB ?_);refine zV ?_;(refine zF ?_;refine qaa (qex _ h5 h3) zB ?_);exact zU
end Go.Proofs.NO
