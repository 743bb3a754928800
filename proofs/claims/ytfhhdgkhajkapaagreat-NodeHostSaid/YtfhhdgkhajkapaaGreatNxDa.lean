/- The document's hosts: the simple functions. -/
import Derived.Test.YtfhhdgkhajkapaaGreatGN
import Derived.Test.YtfhhdgkhajkapaaGreatNMe
import Derived.Test.YtfhhdgkhajkapaaGreatNzP2
import Derived.Test.YtfhhdgkhajkapaaGreatNGa
set_option linter.all false
open True renaming intro->Ka
open Int renaming natCast_zero->Kb
open List renaming take_of_length_le->Kc,append_assoc->Kd
open Option renaming none->U
namespace Go.Proofs.NO
open Go Go.Idl Go.Proofs Go.GP Go.Proofs.Tryz
set_option maxHeartbeats 0
set_option maxRecDepth 100000
abbrev lSs(l:List (Int × Int × Int)):IV:= .p (.imm 3 (pr eIII l))
def qhh(l:List Int)(hl:l.length<=1000000):Pure prog 118 [lI l,lI l] (scb true):=by
 refine zAb func118 λhs=>?_;refine qac 200 200 (λi:Nat=>i<=l.length)
  (λi=>⟨26, [(0,lI l),(1,lI l),(5,sci .i64 i)], [],0, []⟩) (λi=>l.length - i) (0) [] ?_ ?_ ?_
 .simp
 .exact zc (zQ @Kb (zQ @Kc.{0} @Kd.{0}))
 .rintro i hi;refine zV ?_;by_cases li:i < l.length
  .refine zP ?_;(refine zM [0,1,5] ?_;refine zI [U,U,U,U,U,U,U,U,U] ?_);have e:=beq_self_eq_true l[i];(try simp(disch:=omega) only[go_sem,simprocAttr,zD,zE,eI,e]);refine⟨i+1, [],li,wa,?_⟩;constructor<;>exact zU
  .obtain rfl:i=l.length:=wa
   exact zU
def qjo{q:Int}: ∀ {l:List (Int × Int)} {i:Nat},0<=idxM q i l↔ ∃x∈l,x.1=q
 | [],i=>by simp[idxM]
 | x::r,i=>by
   unfold idxM;split
   .rename_i e;simp[e]
   .rename_i e;rw[qjo];simp[e]
def R6SameR_spec(p:Pc)(h1:p.inn.length<=1000000)(h2:p.out.length<=1000000)(h3:p.sent.length<=1000000)(h4: ∀l∈p.out,l.length<=1000000):Pure prog 87 [lPc p,lPc p] (scb true):=by
 obtain⟨node,state,steps,sent,inn,out⟩:=p;simp only at h1 h2 h3 h4;refine zAa func87 λhs=>?_;have a1:=beq_self_eq_true node;have a2:=beq_self_eq_true state;have a3:=beq_self_eq_true steps;refine zV ?_;refine zP ?_;refine zY (qhh sent h3) ?_;refine qac 200 200 (λi:Nat=>i<=inn.length)
  (λi=>⟨90, [(2, .ptr 0 0 0 0),(3, .ptr 1 0 0 0),(5,sci .i64 i)], [],2, [(1, .arr 6 0 [[sci .i64 node,sci .i64 state,sci .i64 steps,lI sent,lMs inn,lLs out]]),(0, .arr 6 0 [[sci .i64 node,sci .i64 state,sci .i64 steps,lI sent,lMs inn,lLs out]])]⟩) (λi=>inn.length - i) (0) [] ?_ ?_ ?_
 .simp
 .exact zc (zQ @Kb (zQ @Kc.{0} @Kd.{0}))
 .rintro i hi;refine zV ?_;by_cases li:i < inn.length
  ·(try simp(maxSteps:=2000000) (disch:=omega) only[go_sem,simprocAttr,zD,zE,eMs]);(refine zM [2,3,5] ?_;refine zI [U,U,U,U,U,U,U,U,U,U,some [],U] ?_);(try simp(maxSteps:=2000000) (disch:=omega) only[go_sem,simprocAttr,zD,zE,eMs]);(refine zF ?_;refine qaa (qo7 inn[i] inn[i]) zB ?_;refine zV ?_);have e:=beq_self_eq_true inn[i];refine zS e ?_;refine⟨i+1, [],li,wa,?_⟩;constructor<;>exact zU
  .obtain rfl:i=inn.length:=wa
   refine zP ?_;refine zM [2,3,6] ?_;refine qac 200 200 (λj:Nat=>j<=out.length)
    (λj=>⟨90, [(2, .ptr 0 0 0 0),(3, .ptr 1 0 0 0),(6,sci .i64 j)], [],2, [(1, .arr 6 0 [[sci .i64 node,sci .i64 state,sci .i64 steps,lI sent,lMs inn,lLs out]]),(0, .arr 6 0 [[sci .i64 node,sci .i64 state,sci .i64 steps,lI sent,lMs inn,lLs out]])]⟩) (λj=>out.length - j) (0) [] ?_ ?_ ?_
   .simp
   .exact zc (zQ @Kb (zQ @Kc.{0} @Kd.{0}))
   .rintro j hj;refine zV ?_;by_cases lj:j < out.length
    ·(try simp(maxSteps:=2000000) (disch:=omega) only[go_sem,simprocAttr,zD,zE,eLs]);(refine zM [2,3,6] ?_;refine zI [U,U,U,U,U,U,U,U,U,U,some [],U] ?_);(try simp(maxSteps:=2000000) (disch:=omega) only[go_sem,simprocAttr,zD,zE,eLs]);(refine zF ?_;refine qaa (qhh out[j] (h4 _ (List.getElem_mem lj))) zB ?_);refine zP ?_;refine⟨j+1, [],lj,wa,?_⟩;constructor<;>exact zU
    .obtain rfl:j=out.length:=wa
     exact zU
def qk2(h:Hs)(hg:gHs h):Pure prog 46 [lHs h,lHs h] (scb true):=by
 obtain⟨node,state,steps,inn,out⟩:=h;obtain⟨b2,b3,b4,b5⟩:=hg;simp only at b2 b3 b4 b5;refine zAa func46 λhs=>?_;have a1:=beq_self_eq_true node;have a2:=beq_self_eq_true state;have a3:=beq_self_eq_true steps;refine zS (zQ a1 (zQ a2 a3)) ?_;(refine zG ?_;refine qaa (R6SameR_spec ⟨0,0,0, [],inn,out⟩ b2 b3 wb b5) zB ?_);exact zU
def qdG(T:List Nd)(n k:Nat)(x:Nd)(s:St)(hx:T[n]? =some x)(hq:x.states[k]? =some s):
  Pure prog 123 [.p (.imm 2 (pr eNd T)),sci .i64 n,sci .i64 k] (lSt s):=by
 obtain⟨ln,ex⟩:=List.getElem?_eq_some_iff.1 hx;obtain⟨st,ss⟩:=x;obtain⟨lk,es⟩:=List.getElem?_eq_some_iff.1 hq;simp only at lk es;refine zAa func123 λhs=>?_;simp(maxSteps:=2000000) only[go_sem,simprocAttr,maxLen] at hs;refine zV ?_;(try simp(maxSteps:=2000000) (disch:=omega) only[go_sem,simprocAttr,zD,zE,eNd,ex,eSt,es])
def qj1(T:List Nd)(n k:Nat)(x:Nd)(s:St)(hx:T[n]? =some x)(hq:x.states[k]? =some s)(i:Int):
  Pure prog 124 [.p (.imm 2 (pr eNd T)),sci .i64 n,sci .i64 k,sci .i64 i]
   (if i < 0 then .tup [.agg [sci .i64 0,lII []],scb false] else match s.picks[i.toNat]? with | some p=> .tup [.agg [sci .i64 p.1,lII p.2],scb true] | none=> .tup [.agg [sci .i64 0,lII []],scb false]):=by
 by_cases h1:i < 0
 .rw[if_pos h1];refine zAb func124 λhs=>?_;(refine zG ?_;refine qaa (qdG T n k x s hx hq) zB ?_);exact zy h1
 rw[if_neg h1];obtain⟨j,rfl⟩:=Int.eq_ofNat_of_zero_le (show 0<=i by omega);rw[Int.toNat_natCast];by_cases h2:j < s.picks.length
 .rw[List.getElem?_eq_getElem h2];generalize hpe:s.picks[j]=p at *;obtain⟨nx,sn⟩:=p;simp only;refine zAb func124 λhs=>?_;(refine zG ?_;refine qaa (qdG T n k x s hx hq) zB ?_);(try simp(maxSteps:=2000000) (disch:=omega) only[go_sem,simprocAttr,zD,zE,ePk,hpe])
 .rw[List.getElem?_eq_none wa];simp only;refine zAb func124 λhs=>?_;(refine zG ?_;refine qaa (qdG T n k x s hx hq) zB ?_);exact zU
def qkV(T:List Nd)(n k:Nat)(x:Nd)(s:St)(hx:T[n]? =some x)(hq:x.states[k]? =some s)(f a:Int)(hk:s.takes.length<=1000000):
  Pure prog 127 [.p (.imm 2 (pr eNd T)),sci .i64 n,sci .i64 k,sci .i64 f,sci .i64 a] (sci .i64 (qbu f a k s.takes)):=by
 refine zAb func127 λhs=>?_;refine zY (qdG T n k x s hx hq) ?_;refine zM [2,3,4,11,12] ?_;refine qac 200 200 (λi:Nat=>i<=s.takes.length/\qbu f a k (s.takes.drop i)=qbu f a k s.takes)
  (λi=>⟨46, [(2,sci .i64 k),(3,sci .i64 f),(4,sci .i64 a),(11, .p (.imm 3 (pr eIII s.takes))),(12,sci .i64 i)], [],0, []⟩) (λi=>s.takes.length - i) (0) [] ?_ ?_ ?_
 .simp
 .exact zc (zQ @Kb (zQ @Kc.{0} @Kd.{0}))
 .rintro i hi;obtain⟨hi,hinvi⟩:=hi;refine zV ?_;by_cases li:i < s.takes.length
  .rw[qaU li,qbu] at hinvi;(try simp(disch:=omega) only[go_sem,simprocAttr,zD,zE,eIII]);obtain⟨t1,t2,t3,ht⟩: ∃t1 t2 t3,s.takes[i]=(t1,t2,t3):=⟨_,_,_,rfl⟩;simp only[ht] at hinvi;by_cases h1:t1=f
   .by_cases h2:t2=a
    .rw[if_pos ⟨h1,h2⟩] at hinvi;(try simp(disch:=omega) only[go_sem,simprocAttr,zD,zE,eIII,ht,h1,h2,<-hinvi])
    .rw[if_neg λq=>h2 q.2] at hinvi;(try simp(disch:=omega) only[go_sem,simprocAttr,zD,zE,eIII,ht,h1,h2]);refine⟨i+1, [],⟨li,hinvi⟩,wa,?_⟩;constructor<;>exact zU
   .rw[if_neg λq=>h1 q.1] at hinvi;(try simp(disch:=omega) only[go_sem,simprocAttr,zD,zE,eIII,ht,h1]);refine⟨i+1, [],⟨li,hinvi⟩,wa,?_⟩;constructor<;>exact zU
  .obtain rfl:i=s.takes.length:=wa
   rw[List.drop_length,qbu] at hinvi;exact zy hinvi.symm
end Go.Proofs.NO
