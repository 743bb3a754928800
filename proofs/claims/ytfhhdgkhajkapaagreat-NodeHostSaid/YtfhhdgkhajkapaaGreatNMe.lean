/- Facts leant on. -/
import Derived.Test.YtfhhdgkhajkapaaGreatNPC
import Derived.Test.YtfhhdgkhajkapaaGreatNMd
import Derived.Test.YtfhhdgkhajkapaaGreatNzFb
set_option linter.all false
open True renaming intro->Ka
open List renaming append_nil->Kb,getElem?_eq_getElem->Kc,take_of_length_le->Kd,drop_length->Ke,map_nil->Kf,length_cons->Kg,getElem_mem->Kh,length_set->Ki,mem_range'_1->Kj
open Int renaming toNat_natCast->Kk,natCast_zero->Kl
open Option renaming none->U,some->V
/- A table's answers: the mode, what a letter leads to. -/
namespace Go.Proofs.NO
open Go Go.Idl Go.Proofs Go.GP Go.Proofs.Tryz
set_option maxHeartbeats 0
set_option maxRecDepth 100000
def qbu(f a d:Int):List (Int × Int × Int)->Int
 | []=>d
 | t::r=>if t.1=f/\t.2.1=a then t.2.2 else qbu f a d r
def qd3(T:List Nd)(n k:Nat)(x:Nd)(s:St)(hx:T[n]? =V x)(hq:x.states[k]? =V s):
  Pure prog 176 [.p (.imm 2 (pr eNd T)),sci .i64 n,sci .i64 k] (.tup [lSt s,scb true]):=by
 obtain⟨ln,ex⟩:=List.getElem?_eq_some_iff.1 hx;obtain⟨st,ss⟩:=x;obtain⟨lk,es⟩:=List.getElem?_eq_some_iff.1 hq;simp only at lk es;refine zAa func176 λhs=>?_;simp(maxSteps:=2000000) only[go_sem,simprocAttr,maxLen] at hs;refine zV ?_;(try simp(maxSteps:=2000000) (disch:=omega) only[go_sem,simprocAttr,zD,zE,eNd,ex,eSt,es])
def qi9(T:List Nd)(n k:Nat)(x:Nd)(s:St)(hx:T[n]? =V x)(hq:x.states[k]? =V s):
  Pure prog 93 [.p (.imm 2 (pr eNd T)),sci .i64 n,sci .i64 k] (sci .i64 s.mode):=by
 refine zAb func93 λhs=>?_;(refine zG ?_;refine qaa (qd3 T n k x s hx hq) zB ?_);exact zU
def qn9(T:List Nd)(n k:Nat)(x:Nd)(s:St)(hx:T[n]? =V x)(hq:x.states[k]? =V s)(f a:Int)(hk:s.takes.length<=1000000):
  Pure prog 102 [.p (.imm 2 (pr eNd T)),sci .i64 n,sci .i64 k,sci .i64 f,sci .i64 a] (sci .i64 (qbu f a k s.takes)):=by
 refine zAb func102 λhs=>?_;refine zY (qd3 T n k x s hx hq) ?_;refine zM [2,3,4,23,24,25] ?_;refine qac 200 200 (λi:Nat=>i<=s.takes.length/\qbu f a k (s.takes.drop i)=qbu f a k s.takes)
  (λi=>⟨43, [(2,sci .i64 k),(3,sci .i64 f),(4,sci .i64 a),(23, .p (.imm 3 (pr eIII s.takes))),(24,sci .i64 s.takes.length),(25,sci .i64 i)], [],1, []⟩) (λi=>s.takes.length - i) (0) [] ?_ ?_ ?_
 .simp
 .exact zc (zQ @Kl (zQ @Kd.{0} @List.append_assoc.{0}))
 .rintro i hi;obtain⟨hi,hinvi⟩:=hi;refine zV ?_;by_cases li:i < s.takes.length
  .rw[qaU li,qbu] at hinvi;(try simp(disch:=omega) only[go_sem,simprocAttr,zD,zE,eIII]);generalize s.takes[i]=t at *;obtain⟨t1,t2,t3⟩:=t;simp only at hinvi;by_cases h1:t1=f
   .by_cases h2:t2=a
    .rw[if_pos ⟨h1,h2⟩] at hinvi;exact zy (zQ h1 (zQ h2 hinvi.symm))
    .rw[if_neg λq=>h2 q.2] at hinvi;refine zS (zQ h1 h2) ?_;refine⟨i+1, [],⟨li,hinvi⟩,wa,?_⟩;constructor<;>exact zU
   .rw[if_neg λq=>h1 q.1] at hinvi;refine zS h1 ?_;refine⟨i+1, [],⟨li,hinvi⟩,wa,?_⟩;constructor<;>exact zU
  .obtain rfl:i=s.takes.length:=wa
   rw[Ke,qbu] at hinvi;exact zy hinvi.symm
def indexL_at(a:Int)(l:List Int):indexL a 0 l= -1\/ ∃j:Nat,indexL a 0 l=(j:Int)/\j < l.length/\l[j]? =V a:=by
 rcases indexL_at' a l 0 with e | ⟨j,e,h⟩
 .exact .inl e
 .exact .inr ⟨j,by rw[e,Nat.zero_add],h⟩
def lenAt{α:Type}(l:List (List α))(i:Int):Int:=if i < 0 then 0 else((l[i.toNat]?).getD []).length
def qjw{α:Type}(l:List (List α)):lenAt l (-1)=0:=rfl
def qjx{α:Type}{l:List (List α)}{j:Nat}(h:j < l.length):lenAt l (j:Int)=(l[j].length:Int):=by
 unfold lenAt;rw[if_neg wa,Kk,Kc h,Option.getD_some]
def qml(l:List (Int × Int))(hn:l.length<=1000000):Pure prog 177 [lII l] (lII l):=by
 cases l with
 | nil=>
   refine zAa func177 λhs=>?_;(try simp only[go_sem,simprocAttr,pr,Kf]);refine qdc (sz:=2) (rows:= []) rfl we wh λb hb=>?_;cases b;all_goals
    refine vc_sound _ 200 _ _ ?_;exact zT
 | cons a r=>
   rw[Kg] at hn;have e:pr eII (a::r)=eII a::pr eII r:=rfl;refine zAb func177 λhs=>?_;exact zy e
def qmA(T:List Nd)(n k:Nat)(x:Nd)(s:St)(hx:T[n]? =V x)(hq:x.states[k]? =V s)(i:Int)(hs: ∀p∈s.picks,p.2.length<=1000000):
  Pure prog 94 [.p (.imm 2 (pr eNd T)),sci .i64 n,sci .i64 k,sci .i64 i]
   (if i < 0 then .tup [.agg [sci .i64 0,lII []],scb false] else match s.picks[i.toNat]? with | some p=> .tup [.agg [sci .i64 p.1,lII p.2],scb true] | none=> .tup [.agg [sci .i64 0,lII []],scb false]):=by
 have hz:T.length=T.length:=rfl;by_cases h1:i < 0
 .rw[if_pos h1];refine zAb func94 λhs=>?_;(refine zG ?_;refine qaa (qd3 T n k x s hx hq) zB ?_);exact zy h1
 rw[if_neg h1];obtain⟨j,rfl⟩:=Int.eq_ofNat_of_zero_le (show 0<=i by omega);rw[Kk];by_cases h2:j < s.picks.length
 .rw[Kc h2];have hp:=hs _ (Kh h2);generalize hpe:s.picks[j]=p at *;obtain⟨nx,sn⟩:=p;simp only at hp ⊢;refine zAb func94 λhs=>?_;refine zY (qd3 T n k x s hx hq) ?_;(refine zM [3,8,10,208] ?_;refine zI [U,U,U,U,U,U,U,U,U,U,U,U,V [0,1,2,3,4,5],U,V [],U] ?_);(try simp(maxSteps:=2000000) (disch:=omega) only[go_sem,simprocAttr,zD,zE,ePk,hpe]);(refine zF ?_;refine qaa (qml sn hp) zB ?_);exact zU
 .rw[List.getElem?_eq_none wa];simp only;refine zAb func94 λhs=>?_;(refine zG ?_;refine qaa (qd3 T n k x s hx hq) zB ?_);exact zU
def pkGo(ls:List (Int × Int))(n:Int):List (Int × Int)->List (List Int)->List (Int × Int × Int)->Option (List (List Int) × List (Int × Int × Int))
 | [],out,sent=>V (out,sent)
 | s::r,out,sent=>
   if 500<=((out[(indexL (qay n s.1 0 ls) 0 (outs n 0 ls)).toNat]?).getD []).length then U
   else pkGo ls n r (out.set (indexL (qay n s.1 0 ls) 0 (outs n 0 ls)).toNat ((out[(indexL (qay n s.1 0 ls) 0 (outs n 0 ls)).toNat]?).getD []++ [s.2]))
    (sent++ [(qay n s.1 0 ls,(((out[(indexL (qay n s.1 0 ls) 0 (outs n 0 ls)).toNat]?).getD []).length:Int)+1,s.2)])
abbrev lSt3(l:List (Int × Int × Int)):IV:= .p (.imm 3 (pr eIII l))
def zHs:Hs:=⟨0,0,0, [], []⟩
def pickH(ls:List (Int × Int))(st:St)(h:Hs)(k:Int):Hs × List (Int × Int × Int) × Int:=
 if st.mode≠1 then(zHs, [],8)
 else if k < 0 then(zHs, [],3)
 else match st.picks[k.toNat]? with
 | none=>(zHs, [],3)
 | some p=>match pkGo ls h.node p.2 h.out [] with
   | none=>(zHs, [],2)
   | some (out,sent)=>(⟨h.node,p.1,h.steps+1,h.inn,out⟩,sent,0)
abbrev qnp(r:Hs × List (Int × Int × Int) × Int):IV:= .tup [lHs r.1,lSt3 r.2.1,sci .i64 r.2.2]
def qnj{n to:Int}{ls:List (Int × Int)}(h:(n,to)∈ls): ∃q:Nat,indexL (qay n to 0 ls) 0 (outs n 0 ls)=(q:Int)/\q < (outs n 0 ls).length:=by
 obtain⟨j,hj,e,e2⟩:=qfn (findL_mem (s:=0).2 h);have hm:qay n to 0 ls∈outs n 0 ls:=by
  rw[e];exact qlO hj (by rw[e2])
 have h0:=qfv (i:=0).2 hm;rcases indexL_at (qay n to 0 ls) (outs n 0 ls) with h1 | ⟨q,h1,h2,_⟩
 .omega
 .exact⟨q,h1,h2⟩
def νH(i:Nat):Nat:=match i with
 | 0=>4
 | i+1=>1000+i
def qo9(s:Sc)(h:Hs)(k:Int)(n j:Nat)(x:Nd)(st:St)(hn:h.node=n)(hj:h.state=j)(hx:s.T[n]? =V x)(hq:x.states[j]? =V st)(hg:gHs h)(hl:s.ls.length<=1000000)
  (hp: ∀p∈st.picks,p.2.length<=1000000/\ ∀y∈p.2,(h.node,y.1)∈s.ls) (ho:h.out.length=(outs h.node 0 s.ls).length) (h0:0<=h.steps/\h.steps<=2147483647):
  Pure prog 27 [lApp s,lHs h,sci .i64 k] (qnp (pickH s.ls st h k)):=by
 obtain⟨N,ls,T,ff,room,acts⟩:=s;obtain⟨node,state,steps,inn,out⟩:=h;obtain⟨b2,b3,b4,b5⟩:=id hg;simp only at hn hj hx hl ho h0 b2 b3 b4 b5 hp;subst hn hj;have hPk:=qmA T n j x st hx hq k λp hp'=>(hp p hp').1
 generalize hres:pickH ls st ⟨n,j,steps,inn,out⟩ k=res;unfold pickH at hres;simp only at hres;refine zAb func27 λhs=>?_;(refine zG ?_;refine qaa (qi9 T n j x st hx hq) zB ?_;refine zV ?_);by_cases h1:st.mode=1
 rotate_left
 .rw[if_pos h1] at hres;subst hres;(try simp(maxSteps:=2000000) (disch:=omega) only[go_sem,simprocAttr,zD,zE,h1,zHs])
 rw[if_neg (λq=>q h1)] at hres;refine zS h1 ?_;by_cases h2:k < 0
 .rw[if_pos h2] at hres hPk;subst hres;(refine zG ?_;refine qaa (hPk) zB ?_);(try simp(maxSteps:=2000000) (disch:=omega) only[go_sem,simprocAttr,zD,zE,zHs])
 rw[if_neg h2] at hres hPk;cases h3:st.picks[k.toNat]? with
 | none=>
   rw[h3] at hres hPk;subst hres;(refine zG ?_;refine qaa (hPk) zB ?_);(try simp(maxSteps:=2000000) (disch:=omega) only[go_sem,simprocAttr,zD,zE,zHs])
 | some p=>
   obtain⟨hpl,hpm⟩:=hp p (List.mem_of_getElem? h3);rw[h3] at hres hPk;obtain⟨nxt,sends⟩:=p;simp only at hpl hpm hres hPk;refine zY hPk ?_;refine at_gN 200 νH 3000000 (qpF ⟨n,j,steps,inn,out⟩ hg rfl) ?_ ?_ wa ?_
   .rintro(_ | a) (_ | b) ha hb e
    .rfl
    .simp only[νH] at e;omega
    .simp only[νH] at e;omega
    .simp only[νH] at e;omega
   .have:(⟨n,j,steps,inn,out⟩:Hs).out.length=out.length:=rfl;rintro(_ | a) ha
    .simp only[νH];omega
    .simp only[νH];omega
   have e0:νH 0=4:=rfl;have eL:rnL νH (qak 1 (famB 1 eI (qaj out)))=qak 1000 (famB 1 eI (qaj out)):=qe2 λi _=>by show νH (1+i)=_;rw[Nat.add_comm];rfl
   have eR:rnRw νH (qaq 1 (qaj out))=qaq 1000 (qaj out):=qcG λi _=>by show νH (1+i)=_;rw[Nat.add_comm];rfl
   have eF:=qbb out;refine zS (zQ e0 (zQ eL (zQ eR (zQ @qa2 eF)))) ?_;refine walk_own 12 3 trivial rfl (.inr rfl) ?_;clear hPk eL eR e0;have hfm:(qaj out).map (·.2)=out:=by rw[qaj,List.map_map];exact List.map_id' _
   refine qac 0 200 (λi:Nat × List (Nat × List Int) × Nat × List (Int × Int × Int)=>i.1<=sends.length/\i.2.1.length=out.length/\i.2.2.2.length=i.1/\pkGo ls n (sends.drop i.1) (i.2.1.map (·.2)) i.2.2.2=pkGo ls n sends out [])
    (λi=>⟨108, [(3, .ptr 0 0 0 0),(4, .ptr 1 0 0 0),(6, .ptr 2 0 0 0),(9, .ptr 3 0 0 0),(11, .ptr 3000000 0 0 0),(12, .ref 3000001 i.2.2.1 0 i.2.2.2.length),(43,lII sends),(44,sci .i64 sends.length),(45,sci .i64 i.1)], [],3000002,
     (3000001, .arr 3 i.2.2.1 (ir eIII i.2.2.2))::(3000000, .arr 5 0 [[sci .i64 n,sci .i64 j,sci .i64 steps,lMs inn, .ref 4 out.length 0 out.length]])::(4, .arr 1 out.length (qaq 1000 i.2.1))::(3, .arr 2 0 [[sci .i64 nxt,lII sends]])::
     (2, .arr 5 0 [[sci .i64 0,sci .i64 0,sci .i64 0,nil0,nil0]])::(1, .arr 5 0 [[sci .i64 n,sci .i64 j,sci .i64 steps,lMs inn,lLs out]])::(0, .arr 4 0 [[sci .i64 N,lII ls, .p (.imm 2 (pr eNd T)),scb ff]])::qak 1000 (famB 1 eI i.2.1)⟩)
    (λi=>sends.length - i.1) (0,qaj out,0, []) [] ?_ ?_ ?_
   .exact⟨wb,eF,rfl,by rw[hfm];rfl⟩
   .constructor
    case blks=>
     refine zS (zQ @qa2 eF) ?_;refine qbW (.inl rfl) λi hi=>?_;have hi':=hi;rw[eF] at hi';exact zy @qa4
    all_goals(try simp(maxSteps:=2000000) (disch:=omega) only[go_sem,simprocAttr,zD,zE,Kl])
   .rintro⟨i,cur,gs,sent⟩ ⟨i1,i2,i4,i3⟩;simp only at i1 i2 i4 i3;have hrl:(qaq 1000 cur).length=cur.length:=qcv;by_cases li:i < sends.length
    .have hm:=hpm _ (Kh li);rw[List.drop_eq_getElem_cons li,pkGo] at i3;generalize hz:sends[i]=z at *;obtain⟨to,lt⟩:=z;simp only at hm i3;obtain⟨q,hq1,hq2⟩:=qnj hm;generalize hf:qay n to 0 ls=f at *;rw[hq1,Kk] at i3;have lq:q < cur.length:=wa
     have hcq:(cur.map (·.2))[q]? =V cur[q].2:=by rw[List.getElem?_map,Kc lq];rfl
     have hcs: ∀v:List Int,∀g:Nat,(cur.set q (g,v)).map (·.2)=(cur.map (·.2)).set q v:=λv g=>by rw[List.map_set]
     rw[hcq,Option.getD_some] at i3;have hrg:(qaq 1000 cur)[q]? =V [.ref (1000+q) cur[q].1 0 cur[q].2.length]:=qc7 lq;have hrs: ∀x:Nat × List Int,(qaq 1000 cur).set q [.ref (1000+q) x.1 0 x.2.length]=qaq 1000 (cur.set q x):=λx=>qgE lq
     have hlk: ∀r,Idl.look (qak 1000 (famB 1 eI cur)++r) (1000+q)=V (.arr 1 cur[q].1 (ir eI cur[q].2)):=λr=>qa4 lq
     have hlk0:Idl.look (qak 1000 (famB 1 eI cur)) (1000+q)=V (.arr 1 cur[q].1 (ir eI cur[q].2)):=by have:=hlk [];rwa[Kb] at this
     generalize ho2:cur[q]=o at *;obtain⟨go,o⟩:=o;simp only at i3 hrg hlk hlk0;by_cases h500:500<=o.length
     .rw[if_pos h500] at i3;rw[<-i3] at hres;simp only at hres;subst hres;clear i3 hcs hrs hcq;refine zV ?_;(try simp(maxSteps:=2000000) (disch:=omega) only[go_sem,simprocAttr,zD,zE,eII,hz]);(refine zG ?_;refine qaa (qdF N n to ls hl) zB ?_);refine zS hf ?_;refine zY (qcU N n ls hl) ?_;(refine zG ?_;refine qaa (qb3 _ _) zB ?_);(try simp(maxSteps:=2000000) (disch:=omega) only[go_sem,simprocAttr,zD,zE,hq1,hrg,zHs])
     .rw[if_neg h500] at i3;have hcur: ∀g,(List.map (λx=>x.snd) cur).set q (o++ [lt])=(cur.set q (g,o++ [lt])).map (·.2):=λg=>(hcs _ g).symm
      rw[hcur (go+1)] at i3;have hset:(qaq 1000 cur).set q [.ref (1000+q) (go+1) 0 (o.length+1)]=qaq 1000 (cur.set q (go+1,o++ [lt])):=by
       have:=hrs (go+1,o++ [lt]);rwa[show(go+1,o++ [lt]).2.length=o.length+1 by simp] at this
      have hgs:(qaq 1000 (cur.set q (go+1,o++ [lt])))[q]? =V [.ref (1000+q) (go+1) 0 (o.length+1)]:=by
       have:=qc7 (xs:=cur.set q (go+1,o++ [lt])) (k:=1000) (i:=q) (by rw[Ki];exact lq);simpa using this
      clear hcs hrs hcq hcur;refine zV ?_;(try simp(maxSteps:=2000000) (disch:=omega) only[go_sem,simprocAttr,zD,zE,eII,hz]);(refine zG ?_;refine qaa (qdF N n to ls hl) zB ?_);refine zS hf ?_;refine zY (qcU N n ls hl) ?_;(refine zG ?_;refine qaa (qb3 _ _) zB ?_);refine zS (zQ hq1 hrg) ?_;(refine zM [3,4,6,9,11,12,14,15,16,43,44,45] ?_;refine zI [U,U,U,U,U,U,U,U,U,U,V [0,1,2,3,4,5,6,7],V [0,1,2],U,V []] ?_);refine zS (zQ hrg (zQ hlk0 hset)) ?_;refine⟨wa,?_⟩;generalize hcur:cur.set q (go+1,o++ [lt])=cur' at *;have hcl:cur'.length=cur.length:=by rw[<-hcur,Ki]
      refine qbf 200 [] ⟨108, [(3, .ptr 0 0 0 0),(4, .ptr 1 0 0 0),(6, .ptr 2 0 0 0),(9, .ptr 3 0 0 0),(11, .ptr 3000000 0 0 0),(12, .ref 3000001 gs 0 sent.length),(14, .ptr 3000002 0 0 0),(15,sci .i64 f),(16,sci .i64 q),(43,lII sends),(44,sci .i64 sends.length),(45,sci .i64 i)], [],3000003,
       (3000002, .arr 2 0 [[sci .i64 to,sci .i64 lt]])::(3000001, .arr 3 gs (ir eIII sent))::(3000000, .arr 5 0 [[sci .i64 n,sci .i64 j,sci .i64 steps,lMs inn, .ref 4 out.length 0 out.length]])::(4, .arr 1 out.length (qaq 1000 cur'))::(3, .arr 2 0 [[sci .i64 nxt,lII sends]])::
       (2, .arr 5 0 [[sci .i64 0,sci .i64 0,sci .i64 0,nil0,nil0]])::(1, .arr 5 0 [[sci .i64 n,sci .i64 j,sci .i64 steps,lMs inn,lLs out]])::(0, .arr 4 0 [[sci .i64 N,lII ls, .p (.imm 2 (pr eNd T)),scb ff]])::qak 1000 (famB 1 eI cur')⟩ trivial ?_ ?_
      .have f0: ¬1000+q=3000000:=wa
       have f1: ¬1000+q=3000001:=wa
       have f2: ¬1000+q=3000002:=wa
       have f3: ¬1000+q=3:=wa
       have f4: ¬1000+q=2:=wa
       have f5: ¬1000+q=1:=wa
       have f6: ¬1000+q=0:=wa
       constructor
       case blks=>
        (try simp(maxSteps:=2000000) only[go_sem,simprocAttr,f0,f1,f2,f3,f4,f5,f6]);rw[<-hcur];refine qf8 (.inl rfl) ?_ λj hj hne=>?_
        .have: ¬4=1000+q:=wa
         (try simp(maxSteps:=2000000) only[go_sem,simprocAttr,this])
        .have e1: ¬4=1000+j:=wa
         have e2: ¬q=j:=λe=>hne e.symm
         have e3: ¬1000+q=1000+j:=wa
         have e4: ¬3000002=1000+j:=wa
         have e5: ¬3000001=1000+j:=wa
         have e6: ¬3000000=1000+j:=wa
         have e7: ¬3=1000+j:=wa
         have e8: ¬2=1000+j:=wa
         have e9: ¬1=1000+j:=wa
         have e10: ¬0=1000+j:=wa
         have:=qa4 (sz:=1) (e:=eI) (k:=1000) (r:= []) hj;rw[Kb] at this;(try simp(maxSteps:=2000000) only[go_sem,simprocAttr,e1,e2,e3,e4,e5,e6,e7,e8,e9,e10,this])
       all_goals exact zT
      clear hset hrg hlk hlk0;refine zV ?_;(refine zM [3,4,6,9,11,12,14,15,16,43,44,45] ?_;refine zI [U,U,U,U,U,U,U,U,U,U,U,U,V [0],V [],U] ?_);refine zS hgs ?_;refine⟨(i+1,cur',gs+1,sent++ [(f,(o.length:Int)+1,lt)]), [],⟨li,wc,by simp only[List.length_append,Kg,List.length_nil];omega,i3⟩,wc,?_⟩;constructor
      case blks=>
       (try simp(maxSteps:=2000000) only[go_sem,simprocAttr,ir_snoc,eIII,List.map_cons,Kf]);refine⟨qbA wa,qbW (.inr (by show 1000+cur'.length<=3000002;omega)) λj hj=>?_⟩;have e4: ¬3000002=1000+j:=wa
       have e5: ¬3000001=1000+j:=wa
       have e6: ¬3000000=1000+j:=wa
       have e7: ¬3=1000+j:=wa
       have e8: ¬2=1000+j:=wa
       have e9: ¬1=1000+j:=wa
       have e10: ¬0=1000+j:=wa
       have e1: ¬4=1000+j:=wa
       have:=qa4 (sz:=1) (e:=eI) (k:=1000) (r:= []) hj;rw[Kb] at this;(try simp(maxSteps:=2000000) only[go_sem,simprocAttr,e1,e4,e5,e6,e7,e8,e9,e10,this])
      all_goals(try simp(maxSteps:=2000000) (disch:=omega) only[go_sem,simprocAttr,zD,zE,ir_snoc])
    .obtain rfl:i=sends.length:=wa
     rw[Ke,pkGo] at i3;rw[<-i3] at hres;simp only at hres;subst hres;clear i3;refine zP ?_;rw[qe5];refine qbf 200 (List.range' 1000 out.length) ⟨108, [(3, .ptr 0 0 0 0),(4, .ptr 1 0 0 0),(6, .ptr 2 0 0 0),(9, .ptr 3 0 0 0),(11, .ptr 3000000 0 0 0),(12, .ref 3000001 gs 0 sent.length)], [],3000002,
      [(3000001, .arr 3 gs (ir eIII sent)),(3000000, .arr 5 0 [[sci .i64 n,sci .i64 j,sci .i64 steps,lMs inn, .ref 4 out.length 0 out.length]]),(4, .arr 1 out.length (ir eLs (cur.map (·.2)))),(3, .arr 2 0 [[sci .i64 nxt,lII sends]]),
      (2, .arr 5 0 [[sci .i64 0,sci .i64 0,sci .i64 0,nil0,nil0]]),(1, .arr 5 0 [[sci .i64 n,sci .i64 j,sci .i64 steps,lMs inn,lLs out]]),(0, .arr 4 0 [[sci .i64 N,lII ls, .p (.imm 2 (pr eNd T)),scb ff]])]⟩ trivial ?_ ?_
     .constructor
      case gone=>
       refine qlr (λb hb=>Nat.zero_le _) λp hp hb=>?_;rw[Kj] at hb;simp only[List.mem_cons,List.not_mem_nil,or_false] at hp;rcases hp with rfl | rfl | rfl | rfl | rfl | rfl | rfl<;>(simp only at hb;omega)
      case blks=>
       refine zV ?_;refine qh6 (e:=eI) (sz:=1) (λl=>rfl) λj hj=>⟨by rw[Kj];omega,?_⟩;have e1: ¬4=1000+j:=wa
       have e5: ¬3000001=1000+j:=wa
       have e6: ¬3000000=1000+j:=wa
       have e7: ¬3=1000+j:=wa
       have e8: ¬2=1000+j:=wa
       have e9: ¬1=1000+j:=wa
       have e10: ¬0=1000+j:=wa
       have:=qa4 (sz:=1) (e:=eI) (k:=1000) (r:= []) hj;rw[Kb] at this;(try simp(maxSteps:=2000000) only[go_sem,simprocAttr,e1,e5,e6,e7,e8,e9,e10,this])
      all_goals exact zT
     have hcl:(cur.map (·.2)).length=out.length:=by rw[List.length_map];omega
     have htk:(ir eLs (cur.map (·.2))).take out.length=ir eLs (cur.map (·.2)):=Kd wH;generalize cur.map (·.2)=outv at *;clear hrl i2;exact zy htk
end Go.Proofs.NO
