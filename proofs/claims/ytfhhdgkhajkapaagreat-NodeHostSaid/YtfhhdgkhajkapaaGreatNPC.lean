/- Facts leant on. -/
import Derived.Test.YtfhhdgkhajkapaaGreatGP
import Derived.Test.YtfhhdgkhajkapaaGreatIdRb
import Derived.Test.YtfhhdgkhajkapaaGreatNTypes
import Derived.Test.YtfhhdgkhajkapaaGreatIdNl
set_option linter.all false
open True renaming intro->Ka
open Int renaming natCast_zero->Kb
open List renaming take_of_length_le->Kc,length_take->Kd,append_assoc->Ke,take_succ_eq_append_getElem->Kf,map_cons->Kg,map_nil->Kh,drop_length->Ki,length_map->Kj,drop_zero->Kk,mem_of_getElem?->Kl,set_cons_zero->Km,set_cons_succ->Kn,map_append->Ko,take_length->Kp
open Nat renaming lt_or_ge->Kq,sub_zero->Kr,reduceAdd->Ks
open Option renaming none->U,some->V
/- Graphs: what each function answers. -/
namespace Go.Proofs.NO
open Go Go.Idl Go.Proofs Go.GP Go.Proofs.Tryz
set_option maxHeartbeats 0
set_option maxRecDepth 100000
def indexL(a:Int):Nat->List Int->Int
 | _, []=> -1
 | i,x::r=>if a=x then i else indexL a (i+1) r
def qb3(l:List Int)(a:Int):Pure prog 97 [lI l,sci .i64 a] (sci .i64 (indexL a 0 l)):=by
 refine zAa func97 λhs=>?_;simp only[go_sem,simprocAttr,maxLen] at hs;refine zP ?_;refine qac 200 200 (λi:Nat=>i<=l.length/\indexL a i (l.drop i)=indexL a 0 l)
  (λi=>⟨19, [(0,lI l),(1,sci .i64 a),(7,sci .i64 l.length),(8,sci .i64 i)], [],0, []⟩) (λi=>l.length - i) (0) [] ?_ ?_ ?_
 .simp
 .exact zc (zQ @Kb (zQ @Kc.{0} @Ke.{0}))
 .rintro i hi;obtain⟨hi,hinvi⟩:=hi;refine zV ?_;by_cases li:i < l.length
  .rw[qaU li,indexL] at hinvi;by_cases e:a=l[i]
   .rw[if_pos e] at hinvi;(try simp(disch:=omega) only[go_sem,simprocAttr,zD,zE,eI,<-e,<-hinvi])
   .rw[if_neg e] at hinvi;(try simp(disch:=omega) only[go_sem,simprocAttr,zD,zE,eI,e]);refine⟨i+1, [],⟨wd,hinvi⟩,?_,?_⟩
    ·(try simp only[]);omega
    .exact zc @Ke.{0}
  .obtain rfl:i=l.length:=wa
   rw[Ki] at hinvi;(try simp(disch:=omega) only[go_sem,simprocAttr,zD,zE,<-hinvi,indexL])
def qfv{a:Int}: ∀ {l:List Int} {i:Nat},0<=indexL a i l↔a∈l
 | [],i=>by simp[indexL]
 | x::r,i=>by
   unfold indexL;split
   .rename_i e;simp[e]
   .rename_i e;rw[qfv,List.mem_cons];simp[e]
def qfQ(l:List Int)(a:Int):Pure prog 147 [lI l,sci .i64 a] (scb (decide (a∈l))):=by
 refine zAb func147 λhs=>?_;(refine zG ?_;refine qaa (qb3 _ _) zB ?_;refine zV ?_);have e:=qfv (a:=a) (l:=l) (i:=0);exact zy e
def qq2(N n:Int)(ls:List (Int × Int))(hl:ls.length<=1000000):Pure prog 171 [eG N ls,sci .i64 n,sci .i64 0] (lI (outs n 0 ls)):=by
 refine zAb func171 λhs=>?_;refine walk_own 7 1 trivial rfl (.inr rfl) ?_;refine zM [1,2,7,11,12,13] ?_;refine qac 200 200 (λi:Nat × Nat × List Int=>i.1<=ls.length/\i.2.2.length<=i.1/\i.2.2++outs n i.1 (ls.drop i.1)=outs n 0 ls)
  (λi=>⟨29, [(1,sci .i64 n),(2,sci .i64 0),(7, .ref 1 i.2.1 0 i.2.2.length),(11,lII ls),(12,sci .i64 ls.length),(13,sci .i64 i.1)], [],2,
   [(1, .arr 1 i.2.1 (ir eI i.2.2))]⟩) (λi=>ls.length - i.1) (0,0, []) [] ?_ ?_ ?_
 .simp
 .exact zc @Kb
 .rintro⟨i,g,acc⟩ ⟨h1,h2,h3⟩;simp only at h1 h2 h3;refine zV ?_;by_cases hi:i < ls.length
  .rw[qaU hi] at h3;(try simp(disch:=omega) only[go_sem,simprocAttr,zD,zE,eII]);by_cases hc:ls[i].1=n
   .refine zS hc ?_;refine⟨(i+1,g+1,acc++ [(i:Int)]), [],⟨hi,wm,wR⟩,wc,?_⟩;constructor<;>exact zU
   .refine zS hc ?_;refine⟨(i+1,g,acc), [],⟨hi,wc,wR⟩,wc,?_⟩;constructor<;>exact zU
  .obtain rfl:i=ls.length:=wa
   rw[Ki] at h3;(try simp(disch:=omega) only[go_sem,simprocAttr,zD,zE,<-h3,outs])
def qcU(N n:Int)(ls:List (Int × Int))(hl:ls.length<=1000000):Pure prog 90 [eG N ls,sci .i64 n] (lI (outs n 0 ls)):=by
 refine zAb func90 λhs=>?_;(refine zG ?_;refine qaa (qq2 _ _ _ hl) zB ?_);exact zT
def qdF(N a b:Int)(ls:List (Int × Int))(hl:ls.length<=1000000):Pure prog 96 [eG N ls,sci .i64 a,sci .i64 b] (sci .i64 (qay a b 0 ls)):=by
 refine zAb func96 λhs=>?_;refine zM [7,14,15,16] ?_;refine qac 200 200 (λi:Nat=>i<=ls.length/\qay a b i (ls.drop i)=qay a b 0 ls)
  (λi=>⟨26, [(7, .ptr 1 0 0 0),(14,lII ls),(15,sci .i64 ls.length),(16,sci .i64 i)], [],2, [(1, .arr 2 0 [[sci .i64 a,sci .i64 b]])]⟩) (λi=>ls.length - i) (0) [] ?_ ?_ ?_
 .simp
 .exact zc (zQ @Kb (zQ @Kc.{0} @Ke.{0}))
 .rintro i hi;obtain⟨hi,hinvi⟩:=hi;refine zV ?_;by_cases li:i < ls.length
  .rw[qaU li,qay] at hinvi;(try simp(disch:=omega) only[go_sem,simprocAttr,zD,zE,eII]);by_cases e1:ls[i].1=a
   .by_cases e2:ls[i].2=b
    .rw[if_pos ⟨e1,e2⟩] at hinvi;exact zy (zQ e1 (zQ e2 hinvi.symm))
    .rw[if_neg (λh=>e2 h.2)] at hinvi;refine zS (zQ e1 e2) ?_;refine⟨i+1, [],⟨wd,hinvi⟩,?_,?_⟩
     ·(try simp only[]);omega
     .exact zc @Ke.{0}
   .rw[if_neg (λh=>e1 h.1)] at hinvi;refine zS e1 ?_;refine⟨i+1, [],⟨wd,hinvi⟩,?_,?_⟩
    ·(try simp only[]);omega
    .exact zc @Ke.{0}
  .obtain rfl:i=ls.length:=wa
   rw[Ki] at hinvi;(try simp(disch:=omega) only[go_sem,simprocAttr,zD,zE,<-hinvi,qay])
end Go.Proofs.NO
namespace Go.GP
def unv:List Int->Nat
 | []=>0
 | x::r=>(if x < 0 then 1 else 0)+unv r
def qlO{n}: ∀ {ls i j} (h),ls[j].1=n->((i+j:Nat):Int)∈outs n i ls
 | x::r,i,0,_,e=>by
   simp_all[outs]
 | x::r,i,j+1,h,e=>by
   have:=qlO (ls:=r) (i:=i+1) (j:=j) wg wv
   grind[outs]
structure Bq(N:Nat)(ls:List (Int × Int))(f:Nat)(out q:List Int)(d:Nat->Prop):Prop where
 len:out.length=N
 inq: ∀x∈q,0<=x/\x < N/\0<=at' out x.toNat
 few:unv out+q.length<=f
 le:f<=N
 val: ∀v,v < N-> -1<=at' out v/\at' out v<=(N:Int) - f
 from_: ∀v,v < N->0<=at' out v->Reach ls 0 v
 done: ∀v,v < N->0<=at' out v->d v\/(v:Int)∈q
 clo: ∀v,d v-> ∀x∈ls,x.1.toNat=v->0<=at' out x.2.toNat
 start:0<=at' out 0
 pos:0 < N
structure Bi(N:Nat)(ls:List (Int × Int))(f:Nat)(n:Int)(s:List Int × List Int)(d:Nat->Prop):Prop where
 len:s.1.length=N
 inq: ∀x∈s.2,0<=x/\x < N/\0<=at' s.1 x.toNat
 few:unv s.1+s.2.length<=f
 le:f+1<=N
 val: ∀v,v < N-> -1<=at' s.1 v/\at' s.1 v<=(N:Int) - f
 from_: ∀v,v < N->0<=at' s.1 v->Reach ls 0 v
 done: ∀v,v < N->0<=at' s.1 v->d v\/(v:Int)∈s.2\/(v:Int)=n
 clo: ∀v,d v-> ∀x∈ls,x.1.toNat=v->0<=at' s.1 x.2.toNat
 start:0<=at' s.1 0
 n0:0<=n/\n < N/\0<=at' s.1 n.toNat/\at' s.1 n.toNat<=(N:Int) - (f+1)
end Go.GP
/- How far nodes are; which graphs may be. -/
namespace Go.Proofs.NO
open Go Go.Idl Go.Proofs Go.GP Go.Proofs.Tryz
set_option maxHeartbeats 0
set_option maxRecDepth 100000
end Go.Proofs.NO
namespace Go.GP
open Go Go.Idl
structure PairMap(P:Program)(t:TypeId):Prop where
 ex: ∃k e,tmp P t=V (k,e)/\tkey P k=V (true, [.int .i64, .int .i64])/\tag P k=V true/\(tzv P e).bind cstv=V (sci .i64 0)
variable{P:Program}{t:TypeId}{G:Nat->Option IBlk}{b:Nat}{l:List (Int × Int)}{x y:Int}
end Go.GP
namespace Go.GP
open Go Go.Idl
end Go.GP
namespace Go.GP
open Go Go.Idl
variable{a b:Int}{l:List (Int × Int)}{v:IV}{i:Nat}
end Go.GP
/- Which graphs may be. -/
namespace Go.Proofs.NO
open Go Go.Idl Go.Proofs Go.GP Go.Proofs.Tryz
set_option maxHeartbeats 0
set_option maxRecDepth 100000
end Go.Proofs.NO
namespace Go.Proofs.NO
open Go Go.Idl Go.GP
noncomputable def tB(P:Prop):Bool:= @decide P (Classical.propDecidable P)
def qma{P}:tB P=true↔P:= @decide_eq_true_iff P (Classical.propDecidable P)
def qap{P}(h:P):tB P=true:=qma.2 h
def qah{P}(h: ¬P):tB P=false:=Bool.eq_false_iff.2 λq=>h (qma.1 q)
def qgL{P}[Decidable P]:tB P=decide P:=by
 by_cases h:P
 .rw[qap h];grind
 .rw[qah h];grind
def qmb{P}:(!tB P)=tB (¬P):=by
 by_cases h:P
 .rw[qap h,qah (λq=>q h)];rfl
 .rw[qah h,qap h];rfl
def qcA{P R}(h:P↔R):tB P=tB R:=wg
def LetP(n:Int):Prop:=0<=n/\n < 4
def StaP(m:Nat)(n:Int):Prop:=0<=n/\n < m
def qfX(ls:List (Int × Int))(n:Int)(s:St):Prop:=
 (s.mode≠2/\s.waits.length=0)\/(s.mode=2/\0 < s.waits.length/\ ∀(j:Nat) (w:Int),s.waits[j]? =V w->(w,n)∈ls/\ ∀v,0 < j->s.waits[j - 1]? =V v->v < w)
def qk3(ls:List (Int × Int))(n:Int)(l:List (Int × Int)):Prop:= ∀(j:Nat) (x:Int × Int),l[j]? =V x->(n,x.1)∈ls/\LetP x.2
def qfU(ls:List (Int × Int))(n:Int)(m:Nat)(s:St):Prop:=
 s.picks.length<=4/\(s.mode=1\/s.picks.length=0)/\ ∀(j:Nat) (p:Int × List (Int × Int)),s.picks[j]? =V p->StaP m p.1/\p.2.length<=4/\qk3 ls n p.2
def Once(l:List (Int × Int × Int))(t:Int × Int × Int):Prop:= ∀(k:Nat) (u:Int × Int × Int),l[k]? =V u-> ¬(u.1=t.1/\u.2.1=t.2.1)
def qpe(ls:List (Int × Int))(n:Int)(m:Nat)(s:St):Prop:=
 ∀(j:Nat) (t:Int × Int × Int),s.takes[j]? =V t->(t.1,n)∈ls/\LetP t.2.1/\StaP m t.2.2/\Once (s.takes.take j) t
def KeptP(b:List St)(s:St)(t:Int × Int × Int):Prop:= ∀(j:Nat) (w:Int),s.waits[j]? =V w->w≠t.1-> ∀a,b[t.2.2.toNat]? =V a->a.mode=2/\w∈a.waits
def qpc(a:List St)(s:St):Prop:= ∀(j:Nat) (t:Int × Int × Int),s.takes[j]? =V t->KeptP a s t
def qn1(s:St):Prop:=0<=s.mode/\s.mode < 3
def MayP(ls:List (Int × Int))(n:Int)(a:List St)(s:St):Prop:=qn1 s/\qfX ls n s/\qfU ls n a.length s/\qpe ls n a.length s/\qpc a s
def qn3(ls:List (Int × Int))(n:Int)(x:Nd):Prop:=
 1<=x.states.length/\x.states.length<=8/\StaP x.states.length x.start/\ ∀(j:Nat) (s:St),x.states[j]? =V s->MayP ls n x.states s
def TabP(N:Int)(ls:List (Int × Int))(T:List Nd):Prop:=qd8 N ls/\(T.length:Int)=N/\ ∀(n:Nat) (x:Nd),T[n]? =V x->qn3 ls n x
def qaV{a:Type}{l:List a}{P:Nat->a->Prop}{i}(b)(h: ∀j x,j < i->l[j]? =V x->P j x)(c:P i l[i]): ∀j x,j < i+1->l[j]? =V x->P j x:=wg
def qdn{a:Type}{l:List a}{P:Nat->a->Prop}(h: ∀j x,j < l.length->l[j]? =V x->P j x): ∀j x,l[j]? =V x->P j x:=
 λj x e=>h j x (List.getElem?_eq_some_iff.1 e).1 e
end Go.Proofs.NO
/- Tables: a state's waits, picks, and takes. -/
namespace Go.Proofs.NO
open Go Go.Idl Go.Proofs Go.GP Go.Proofs.Tryz
set_option maxHeartbeats 0
set_option maxRecDepth 100000
variable(s:St)(n st:Int)(ss:List St)(N:Int)(ls:List (Int × Int))(hl:ls.length<=1000000)
end Go.Proofs.NO
/- Tables: what a state waits for, picks, and takes. -/
namespace Go.Proofs.NO
open Go Go.Idl Go.Proofs Go.GP Go.Proofs.Tryz
set_option maxHeartbeats 0
set_option maxRecDepth 100000
def qbc{α:Type}(f:α->Bool):Nat->List α->Int
 | _, []=> -1
 | i,x::r=>if f x=true then i else qbc f (i+1) r
def qdR{α:Type}{f:α->Bool}: ∀ {l:List α} {i:Nat},0<=qbc f i l↔ ∃x∈l,f x=true
 | [],i=>by simp[qbc]
 | x::r,i=>by
   unfold qbc;split
   .rename_i e;simp[e]
   .rename_i e;rw[qdR];simp[e]
variable(s:St)(n st:Int)(ss:List St)(N:Int)(ls:List (Int × Int))(hl:ls.length<=1000000)
end Go.Proofs.NO
/- Tables: what a state picks and takes, and what stays. -/
namespace Go.Proofs.NO
open Go Go.Idl Go.Proofs Go.GP Go.Proofs.Tryz
set_option maxHeartbeats 0
set_option maxRecDepth 100000
variable(s:St)(n st:Int)(ss:List St)(N:Int)(ls:List (Int × Int))(hl:ls.length<=1000000)
end Go.Proofs.NO
/- Tables: what stays; which states may be; which tables may be. -/
namespace Go.Proofs.NO
open Go Go.Idl Go.Proofs Go.GP Go.Proofs.Tryz
set_option maxHeartbeats 0
set_option maxRecDepth 100000
variable(s:St)(n st:Int)(ss:List St)(N:Int)(ls:List (Int × Int))(hl:ls.length<=1000000)
def qrH(s:St):Prop:=s.waits.length<=1000000/\s.picks.length<=1000000/\s.takes.length<=1000000
end Go.Proofs.NO
/- Which tables may be. -/
namespace Go.Proofs.NO
open Go Go.Idl Go.Proofs Go.GP Go.Proofs.Tryz
set_option maxHeartbeats 0
set_option maxRecDepth 100000
def qd9(T:List Nd):Prop:=T.length<=1000000/\ ∀(n:Nat) (x:Nd),T[n]? =V x->x.states.length<=1000000/\ ∀(j:Nat) (s:St),x.states[j]? =V s->qrH s
end Go.Proofs.NO
/- What the cut leaves is small. -/
namespace Go.Proofs.NO
open Go Go.Idl Go.Proofs Go.GP Go.Proofs.Tryz
def qq4(n:Nd):OkNd (qfh n):=by
 refine⟨by simp only[qfh,Kj,Kd];omega,λs hs=>?_⟩;obtain⟨t,_,rfl⟩:=List.mem_map.1 hs;refine⟨?_,?_,λp hp=>?_,?_⟩
 .simp only[qes,Kd];omega
 .simp only[qes,Kj,Kd];omega
 .obtain⟨q,_,rfl⟩:=List.mem_map.1 hp;simp only[cutP,Kd];omega
 .simp only[qes,Kd];omega
def ok_cut(s:Sc):(cutSc s).T.length<=8/\(cutSc s).ls.length<=1000000/\ ∀n∈(cutSc s).T,OkNd n:=by
 refine⟨by simp only[cutSc,Kj,Kd];omega,by simp only[cutSc,Kd];omega,λn hn=>?_⟩;obtain⟨m,_,rfl⟩:=List.mem_map.1 hn;exact qq4 m
def qrr{T:List Nd}(h8:T.length<=8)(h: ∀n∈T,OkNd n):qd9 T:=by
 refine⟨wa,λn x hx=>?_⟩;obtain⟨a,b⟩:=h x (Kl hx);refine⟨wa,λj s hs=>?_⟩;obtain⟨c1,c2,c3,c4⟩:=b s (Kl hs);exact⟨wa,wa,wa⟩
end Go.Proofs.NO
/- Pieces cut and handed to the document. -/
namespace Go.Proofs.NO
open Go Go.Idl Go.Proofs Go.Proofs.Tryz
set_option maxHeartbeats 0
set_option maxRecDepth 100000
structure Pc where
 node:Int
 state:Int
 steps:Int
 sent:List Int
 inn:List (List (Int × Int))
 out:List (List Int)
def eMs(l:List (Int × Int)):List PV:= [.imm 2 (pr eII l)]
def eLs(l:List Int):List PV:= [.imm 1 (pr eI l)]
def ePc(p:Pc):List PV:= [.sc (.int .i64 p.node), .sc (.int .i64 p.state), .sc (.int .i64 p.steps), .imm 1 (pr eI p.sent), .imm 1 (pr eMs p.inn), .imm 1 (pr eLs p.out)]
abbrev lMs(l:List (List (Int × Int))):IV:= .p (.imm 1 (pr eMs l))
abbrev lLs(l:List (List Int)):IV:= .p (.imm 1 (pr eLs l))
abbrev lPc(p:Pc):IV:= .agg [sci .i64 p.node,sci .i64 p.state,sci .i64 p.steps,lI p.sent,lMs p.inn,lLs p.out]
abbrev lPs(l:List Pc):IV:= .p (.imm 6 (pr ePc l))
def qfi(p:Pc):Pc:=⟨p.node,p.state,p.steps,p.sent.take 7,(p.inn.take 7).map (·.take 20),(p.out.take 7).map (·.take 20)⟩
def mn7(n:Nat):(if(7:Int) < (n:Int) then(7:Int) else(n:Int))=((min n 7:Nat):Int):=by split<;>omega
def mn20(n:Nat):(if(20:Int) < (n:Int) then(20:Int) else(n:Int))=((min n 20:Nat):Int):=by split<;>omega
def qnY(p:Pc):Pure prog 88 [lPc p] (lPc p):=by
 refine zAa func88 λhs=>?_;(repeat(first | ((refine zW ?_;try with_reducible exact Ka))))
def qnX(p:Pc):Pure prog 107 [lPc p] (lPc (qfi p)):=by
 obtain⟨node,state,steps,sent,inn,out⟩:=p;refine zAb func107 λhs=>?_;(refine zM [1,2,75] ?_;refine zI [U,U,U,U,U,U,V [0,1,2,3,4,5,7,8,9,10,11,12,13,16],U,U,U,U,U,U,U,V [0,1,2,3,4,5,16],U,V [0,1,2,3,4,5,6,7,8,9,10,11,12,13,14,15],V []] ?_);refine zS (zQ @mn7 (zQ @Kr (zQ @Kk.{0} (zQ @tk_min @tk_len)))) ?_;refine walk_ownB 3 0 4 1 trivial rfl rfl rfl (.inr rfl) ?_;simp only[Km,Kn,Ks];refine zM [1,2,3,4,75] ?_;refine qac 200 200 (λi:Nat × Nat × List (List (Int × Int))=>i.1<=inn.length/\i.1<=7/\i.2.2=(inn.take i.1).map (·.take 20))
  (λi=>⟨85, [(1, .ptr 0 0 0 0),(2, .ptr 1 0 0 0),(3, .ptr 3 0 0 0),(4,sci .i64 i.1)], [],5,
   [(4, .arr 1 i.2.1 (ir eMs i.2.2)),(3, .arr 6 0 [[sci .i64 node,sci .i64 state,sci .i64 steps,lI (sent.take 7), .ref 4 i.2.1 0 i.2.2.length, .p (.sc (.slice U 0 0))]]),
    (1, .arr 6 0 [[sci .i64 0,sci .i64 0,sci .i64 0, .p (.sc (.slice U 0 0)), .p (.sc (.slice U 0 0)), .p (.sc (.slice U 0 0))]]),
    (0, .arr 6 0 [[sci .i64 node,sci .i64 state,sci .i64 steps,lI sent,lMs inn,lLs out]])]⟩) (λi=>7 - i.1) (0,0, []) [2] ?_ ?_ ?_
 .simp
 .exact zc (zQ @Kb @tk_self)
 .rintro⟨i,g,acc⟩ ⟨h1,h2,h3⟩;simp only at h1 h2 h3;have hal:acc.length=i:=wD
  refine zV ?_;by_cases hlt:i < inn.length/\i < 7
  .obtain⟨hl,h7⟩:=hlt;(try simp(maxSteps:=2000000) (disch:=omega) only[go_sem,simprocAttr,zD,zE,eMs]);(refine zM [1,2,3,4,75] ?_;refine zI [U,U,V [0,1,3,4,5,6,7,8,9,10,11,12,13,14,15],U,U,U,U,U,U,U,U,U,U,U,U,U,V [0,1],V [0,1],V [],U,V []] ?_);(try simp(maxSteps:=2000000) (disch:=omega) only[go_sem,simprocAttr,zD,zE,mn20,Kr,Kk,tk_min,tk_len,eMs]);refine⟨(i+1,g+1,acc++ [inn[i].take 20]), [5],⟨hl,h7,?_⟩,?_,?_⟩
   .simp only[h3];rw[Kf hl,Ko,Kg,Kh]
   .simp only;omega
   .constructor<;>(try simp(maxSteps:=2000000) (disch:=omega) only[go_sem,simprocAttr,zD,zE,tk_self,eMs,ir_snoc,Kg,Kh])
  .have h7:inn.take i=inn.take 7:=by
    rcases Kq i 7 with h | h
    .rw[Kc wa,Kc wa]
    .rw[show i=7 by omega]
   rw[h7] at h3;rcases Kq i inn.length with hl | hl;all_goals
    refine zP ?_;refine walk_ownB 3 0 5 1 trivial rfl rfl rfl (.inr rfl) ?_;simp only[Km,Kn,Ks];refine zM [1,2,3,5,75] ?_;refine qac 200 200 (λj:Nat × Nat × List (List Int)=>j.1<=out.length/\j.1<=7/\j.2.2=(out.take j.1).map (·.take 20))
     (λj=>⟨85, [(1, .ptr 0 0 0 0),(2, .ptr 1 0 0 0),(3, .ptr 3 0 0 0),(5,sci .i64 j.1)], [],6,
      [(5, .arr 1 j.2.1 (ir eLs j.2.2)),(3, .arr 6 0 [[sci .i64 node,sci .i64 state,sci .i64 steps,lI (sent.take 7),lMs acc, .ref 5 j.2.1 0 j.2.2.length]]),
       (1, .arr 6 0 [[sci .i64 0,sci .i64 0,sci .i64 0, .p (.sc (.slice U 0 0)), .p (.sc (.slice U 0 0)), .p (.sc (.slice U 0 0))]]),
       (0, .arr 6 0 [[sci .i64 node,sci .i64 state,sci .i64 steps,lI sent,lMs inn,lLs out]])]⟩) (λj=>7 - j.1) (0,0, []) [4] ?_ ?_ ?_
    .simp
    .exact zc (zQ @Kb @List.take_zero.{0})
    .clear hl hlt hal h1 h2 h7;rintro⟨j,g2,acc2⟩ ⟨k1,k2,k3⟩;simp only at k1 k2 k3;have hal2:acc2.length=j:=by rw[k3];simp;omega
     refine zV ?_;by_cases hlt:j < out.length/\j < 7
     .obtain⟨hl,hj7⟩:=hlt;(try simp(maxSteps:=2000000) (disch:=omega) only[go_sem,simprocAttr,zD,zE,eLs]);(refine zM [1,2,3,5] ?_;refine zI [U,U,V [0,1,3,4,5,6,7,8,9,10,11,12,13,14,15],U,U,U,U,U,U,U,U,U,U,U,U,U,V [0,1],V [0,1],V [],U,V []] ?_);(try simp(maxSteps:=2000000) (disch:=omega) only[go_sem,simprocAttr,zD,zE,mn20,Kr,Kk,tk_min,tk_len,eLs]);refine⟨(j+1,g2+1,acc2++ [out[j].take 20]), [6],⟨hl,hj7,?_⟩,?_,?_⟩
      .simp only[k3];rw[Kf hl,Ko,Kg,Kh]
      .simp only;omega
      .constructor<;>(try simp(maxSteps:=2000000) (disch:=omega) only[go_sem,simprocAttr,zD,zE,tk_self,eLs,ir_snoc,Kg,Kh])
     .have hj7:out.take j=out.take 7:=by
       rcases Kq j 7 with h | h
       .rw[Kc wa,Kc wa]
       .rw[show j=7 by omega]
      rw[hj7] at k3;rcases Kq j out.length with hl | hl;all_goals
       (try simp(maxSteps:=2000000) (disch:=omega) only[go_sem,simprocAttr,zD,zE,h3,k3,qfi])
def qo7(a b:List (Int × Int)):Pure prog 154 [lII a,lII b] (scb (a==b)):=by
 refine zAa func154 λhs=>?_;simp only[go_sem,simprocAttr,maxLen] at hs;obtain⟨⟨ha, -⟩,hb, -⟩:=hs;refine zV ?_;by_cases hn:a.length=b.length
 .refine zP ?_;refine walk_loop 200 200 (λi:Nat=>i<=a.length/\a.take i=b.take i) (λi=>⟨26, [(0,lII a),(1,lII b),(5,sci .i64 i)], [],0, []⟩) (λi=>a.length - i) 0 ?_ ?_ ?_
  .simp
  .constructor<;>(try simp only[go_sem,simprocAttr,Kb])
  .rintro i ⟨hi,he⟩;refine zV ?_;by_cases hb:i < a.length
   .refine zP ?_;(refine zM [0,1,5] ?_;refine zI [U,U,U,U,U,U,U,U,U] ?_);(try simp(disch:=omega) only[go_sem,simprocAttr,zD,zE,eII]);by_cases hc:a[i]=b[i]
    .have h1:(a[i].1==b[i].1)=true:=wF
     have h2:(a[i].2==b[i].2)=true:=wF
     refine zS (zQ h1 h2) ?_;refine⟨i+1,⟨hb,?_⟩,wa,?_⟩
     .rw[Kf hb,Kf wa,he,hc]
     .constructor<;>exact zT
    .have h1:(a[i].1==b[i].1 && a[i].2==b[i].2)=false:=by
      rw[Bool.and_eq_false_iff,beq_eq_false_iff_ne,beq_eq_false_iff_ne];by_cases e:a[i].1=b[i].1
      .exact .inr λe2=>hc (Prod.ext e e2)
      .exact .inl e
     refine zS h1 ?_;symm;rw[beq_eq_false_iff_ne];rintro rfl;exact hc rfl
   .refine zP ?_;obtain rfl:i=a.length:=wa
    rw[Kp,hn,Kp] at he;simp[he]
 .refine zP ?_;symm;rw[beq_eq_false_iff_ne];rintro rfl;exact hn rfl
def samePc(p q:Pc):Bool:=p.node==q.node && p.state==q.state && p.steps==q.steps && p.sent==q.sent && p.inn==q.inn && p.out==q.out
def qfM{p q:Pc}:samePc p q=true↔p=q:=by
 unfold samePc;simp only[Bool.and_eq_true,beq_iff_eq];constructor
 .rintro⟨⟨⟨⟨⟨h1,h2⟩,h3⟩,h4⟩,h5⟩,h6⟩;cases p;cases q;simp_all
 .rintro rfl;simp
def sameAll:List Pc->List Pc->Bool
 | [], []=>true
 | p::r,q::s=>samePc p q && sameAll r s
 | _,_=>false
def qcQ: ∀ {a b:List Pc},sameAll a b=true↔a=b
 | [], []=>by simp[sameAll]
 | p::r,q::s=>by simp[sameAll,qfM,qcQ (a:=r) (b:=s)]
 | [],_::_=>by simp[sameAll]
 | _::_, []=>by simp[sameAll]
def qpb(l:List Pc)(hn:l.length<=1000):Pure prog 114 [lPs l] (lPs l):=by
 refine zAb func114 λhs=>?_;refine walk_own 3 6 trivial rfl (.inl rfl) ?_;refine zM [0,3,4] ?_;refine qac 200 200 (λi:Nat × Nat × List Pc=>i.1<=l.length/\i.2.2=l.take i.1)
  (λi=>⟨21, [(0,lPs l),(3, .ref 0 i.2.1 0 i.2.2.length),(4,sci .i64 i.1)], [],1, [(0, .arr 6 i.2.1 (ir ePc i.2.2))]⟩) (λi=>l.length - i.1) (0,0, []) [] ?_ ?_ ?_
 .simp
 .exact zc @Kb
 .rintro⟨i,g,acc⟩ ⟨h1,h3⟩;simp only at h1 h3;have hal:acc.length=i:=wD
  refine zV ?_;by_cases hl:i < l.length
  ·(try simp(disch:=omega) only[go_sem,simprocAttr,zD,zE,ePc]);(refine zG ?_;refine qaa (qnY l[i]) zB ?_);(try simp(disch:=omega) only[go_sem,simprocAttr,zD,zE,ePc]);refine⟨(i+1,g+1,acc++ [l[i]]), [],⟨hl,?_⟩,?_,?_⟩
   .simp only[h3];rw[Kf hl]
   .simp only;omega
   .constructor<;>(try simp(disch:=omega) only[go_sem,simprocAttr,zD,zE,ePc,ir_snoc,Kg,Kh])
  .rw[Kc wa] at h3;exact zy h3
end Go.Proofs.NO
