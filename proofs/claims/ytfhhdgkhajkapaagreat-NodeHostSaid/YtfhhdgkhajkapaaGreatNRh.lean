/- Facts leant on. -/
import Derived.Test.YtfhhdgkhajkapaaGreatIdLo
import Derived.Test.YtfhhdgkhajkapaaGreatNNi
import Derived.Test.YtfhhdgkhajkapaaGreatNxDd
import Derived.Test.YtfhhdgkhajkapaaGreatNMe
import Derived.Test.YtfhhdgkhajkapaaGreatNPS
set_option linter.all false
open List renaming replicate->Ka,take_of_length_le->Kb,append_assoc->Kc,length_replicate->Kd,map_cons->Ke,map_nil->Kf,set_cons_zero->Kg,set_cons_succ->Kh,replicate_zero->Ki,replicate_succ'->Kj,append_nil->Kk,getElem_mem->Kl,length_set->Km,length_append->Kn,length_cons->Ko,length_nil->Kp,mem_range'_1->Kq
open Int renaming natCast_zero->Kr
open True renaming intro->Ks
open Nat renaming reduceAdd->Kt,add_comm->Ku
open Option renaming none->U,some->V
/- The document's node: it floods, and tells. -/
namespace Go.Proofs.NO
open Go Go.Idl Go.Proofs Go.GP Go.Proofs.Tryz
set_option maxHeartbeats 0
set_option maxRecDepth 100000
@[go_sem] abbrev tRow(x:No)(o p q:IV)(e:Int):List IV:= [sci .i64 x.h.node,sci .i64 x.h.state,sci .i64 x.h.steps,lMs x.h.inn,lLs x.h.out,sci .i64 x.m.epoch,lBo x.m.opn,sci .i64 x.m.p.node,sci .i64 x.m.p.state,sci .i64 x.m.p.steps,lI x.m.p.sent,lMs x.m.p.inn,lLs x.m.p.out,sci .i64 x.u.epoch,sci .i64 x.u.p.node,sci .i64 x.u.p.state,sci .i64 x.u.p.steps,lI x.u.p.sent,lMs x.u.p.inn,lLs x.u.p.out,sci .i64 x.t.epoch,sci .i64 x.t.up,sci .i64 x.t.wait,lI x.t.kids,lPs x.got,sci .i64 x.heard,sci .i64 x.told,lI x.seen,o,p,q,sci .i64 e]
@[go_sem] abbrev lTo(x:No)(o p q:IV)(e:Int):IV:= .agg [sci .i64 x.h.node,sci .i64 x.h.state,sci .i64 x.h.steps,lMs x.h.inn,lLs x.h.out,sci .i64 x.m.epoch,lBo x.m.opn,sci .i64 x.m.p.node,sci .i64 x.m.p.state,sci .i64 x.m.p.steps,lI x.m.p.sent,lMs x.m.p.inn,lLs x.m.p.out,sci .i64 x.u.epoch,sci .i64 x.u.p.node,sci .i64 x.u.p.state,sci .i64 x.u.p.steps,lI x.u.p.sent,lMs x.u.p.inn,lLs x.u.p.out,sci .i64 x.t.epoch,sci .i64 x.t.up,sci .i64 x.t.wait,lI x.t.kids,lPs x.got,sci .i64 x.heard,sci .i64 x.told,lI x.seen,o,p,q,sci .i64 e]
abbrev lTq(d:Td):IV:=lTo d.x (lOus d.out) (lPs d.ps) (lI d.path) d.e
def qhg(s:Sc)(h:Hs)(k:Int)(n j:Nat)(x:Nd)(st:St)(hn:h.node=n)(hj:h.state=j)(hx:s.T[n]? =V x)(hq:x.states[j]? =V st)(hg:gHs h)(hl:s.ls.length<=1000000)
  (hp: ∀p∈st.picks,p.2.length<=1000000/\ ∀y∈p.2,(h.node,y.1)∈s.ls) (ho:h.out.length=(outs h.node 0 s.ls).length) (hol: ∀l∈h.out,l.length<=500) (h0:0<=h.steps/\h.steps<=2147483647):
  Pure prog 49 [lApp s,lHs h,sci .i64 k] (qnp (pickH s.ls st h k)):=by
 obtain⟨N,ls,T,ff,room,acts⟩:=s;obtain⟨node,state,steps,inn,out⟩:=h;obtain⟨b2,b3,b4,b5⟩:=id hg;simp only at hn hj hx hl ho h0 b2 b3 b4 b5 hp hol;subst hn hj;have hPk:=qj1 T n j x st hx hq k;generalize hres:pickH ls st ⟨n,j,steps,inn,out⟩ k=res;unfold pickH at hres;simp only at hres;refine zAb func49 λhs=>?_;(refine zG ?_;refine qaa (qdG T n j x st hx hq) zB ?_;(try simp(maxSteps:=2000000) only[go_sem,simprocAttr]));by_cases h1:st.mode=1
 rotate_left
 .rw[if_pos h1] at hres;subst hres;have e1:(st.mode==1)=false:=beq_eq_false_iff_ne.2 h1;(try simp(maxSteps:=2000000) (disch:=omega) only[go_sem,simprocAttr,zD,zE,h1,e1,zHs])
 rw[if_neg (λq=>q h1)] at hres;refine zS h1 ?_;by_cases h2:k < 0
 .rw[if_pos h2] at hres hPk;subst hres;(refine zG ?_;refine qaa (hPk) zB ?_);(try simp(maxSteps:=2000000) (disch:=omega) only[go_sem,simprocAttr,zD,zE,zHs])
 rw[if_neg h2] at hres hPk;cases h3:st.picks[k.toNat]? with
 | none=>
   rw[h3] at hres hPk;subst hres;(refine zG ?_;refine qaa (hPk) zB ?_);(try simp(maxSteps:=2000000) (disch:=omega) only[go_sem,simprocAttr,zD,zE,zHs])
 | some p=>
   obtain⟨hpl,hpm⟩:=hp p (List.mem_of_getElem? h3);rw[h3] at hres hPk;obtain⟨nxt,sends⟩:=p;simp only at hpl hpm hres hPk;refine zY hPk ?_;refine at_gN 200 νH 3000000 (qn7 ⟨n,j,steps,inn,out⟩ hg rfl) ?_ ?_ wa ?_
   .rintro(_ | a) (_ | b) ha hb e
    .rfl
    .simp only[νH] at e;omega
    .simp only[νH] at e;omega
    .simp only[νH] at e;omega
   .have:(⟨n,j,steps,inn,out⟩:Hs).out.length=out.length:=rfl;rintro(_ | a) ha
    .simp only[νH];omega
    .simp only[νH];omega
   have e0:νH 0=4:=rfl;have eL:rnL νH (qak 1 (famB 1 eI (qaj out)))=qak 1000 (famB 1 eI (qaj out)):=qe2 λi _=>by show νH (1+i)=_;rw[Ku];rfl
   have eR:rnRw νH (qaq 1 (qaj out))=qaq 1000 (qaj out):=qcG λi _=>by show νH (1+i)=_;rw[Ku];rfl
   have eF:=qbb out;refine zS (zQ e0 (zQ eL (zQ eR (zQ @qa2 eF)))) ?_;refine walk_own 12 3 trivial rfl (.inl rfl) ?_;clear hPk eL eR e0;have hfm:(qaj out).map (·.2)=out:=by rw[qaj,List.map_map];exact List.map_id' _
   refine qac 0 200 (λi:Nat × List (Nat × List Int) × Nat × List (Int × Int × Int)=>i.1<=sends.length/\i.2.1.length=out.length/\i.2.2.2.length=i.1/\(∀l∈i.2.1,l.2.length<=500)/\pkGo ls n (sends.drop i.1) (i.2.1.map (·.2)) i.2.2.2=pkGo ls n sends out [])
    (λi=>⟨120, [(3, .ptr 0 0 0 0),(4, .ptr 1 0 0 0),(6, .ptr 2 0 0 0),(9, .ptr 3 0 0 0),(11, .ptr 3000000 0 0 0),(12, .ref 3000001 i.2.2.1 0 i.2.2.2.length),(13,sci .i64 i.1)], [],3000002,
     (3000001, .arr 3 i.2.2.1 (ir eIII i.2.2.2))::(3000000, .arr 5 0 [[sci .i64 n,sci .i64 j,sci .i64 steps,lMs inn, .ref 4 out.length 0 out.length]])::(4, .arr 1 out.length (qaq 1000 i.2.1))::(3, .arr 2 0 [[sci .i64 nxt,lII sends]])::
     (2, .arr 5 0 [[sci .i64 0,sci .i64 0,sci .i64 0,nil0,nil0]])::(1, .arr 5 0 [[sci .i64 n,sci .i64 j,sci .i64 steps,lMs inn,lLs out]])::(0, .arr 4 0 [[sci .i64 N,lII ls, .p (.imm 2 (pr eNd T)),scb ff]])::qak 1000 (famB 1 eI i.2.1)⟩)
    (λi=>sends.length - i.1) (0,qaj out,0, []) [] ?_ ?_ ?_
   .refine⟨wb,eF,rfl,λl hl=>?_,by rw[hfm];rfl⟩;obtain⟨l',h1,rfl⟩:=List.mem_map.1 hl;exact hol l' h1
   .constructor
    case blks=>
     refine zS (zQ @qa2 eF) ?_;refine qbW (.inl rfl) λi hi=>?_;have hi':=hi;rw[eF] at hi';exact zy @qa4
    all_goals(try simp(maxSteps:=2000000) (disch:=omega) only[go_sem,simprocAttr,zD,zE,Kr])
   .rintro⟨i,cur,gs,sent⟩ ⟨i1,i2,i4,i5,i3⟩;simp only at i1 i2 i4 i3 i5;have hrl:(qaq 1000 cur).length=cur.length:=qcv;by_cases li:i < sends.length
    .have hm:=hpm _ (Kl li);rw[List.drop_eq_getElem_cons li,pkGo] at i3;generalize hz:sends[i]=z at *;obtain⟨to,lt⟩:=z;simp only at hm i3;obtain⟨q,hq1,hq2⟩:=qnj hm;generalize hf:qay n to 0 ls=f at *;rw[hq1,Int.toNat_natCast] at i3;have lq:q < cur.length:=wa
     have hcq:(cur.map (·.2))[q]? =V cur[q].2:=by rw[List.getElem?_map,List.getElem?_eq_getElem lq];rfl
     have hcs: ∀v:List Int,∀g:Nat,(cur.set q (g,v)).map (·.2)=(cur.map (·.2)).set q v:=λv g=>by rw[List.map_set]
     rw[hcq,Option.getD_some] at i3;have h5q:=i5 _ (Kl lq);have hrg:(qaq 1000 cur)[q]? =V [.ref (1000+q) cur[q].1 0 cur[q].2.length]:=qc7 lq;have hrs: ∀x:Nat × List Int,(qaq 1000 cur).set q [.ref (1000+q) x.1 0 x.2.length]=qaq 1000 (cur.set q x):=λx=>qgE lq
     have hlk: ∀r,Idl.look (qak 1000 (famB 1 eI cur)++r) (1000+q)=V (.arr 1 cur[q].1 (ir eI cur[q].2)):=λr=>qa4 lq
     have hlk0:Idl.look (qak 1000 (famB 1 eI cur)) (1000+q)=V (.arr 1 cur[q].1 (ir eI cur[q].2)):=by have:=hlk [];rwa[Kk] at this
     generalize ho2:cur[q]=o at *;obtain⟨go,o⟩:=o;simp only at i3 hrg hlk hlk0 h5q;have hset:(qaq 1000 cur).set q [.ref (1000+q) (go+1) 0 (o.length+1)]=qaq 1000 (cur.set q (go+1,o++ [lt])):=by
      have:=hrs (go+1,o++ [lt]);rwa[show(go+1,o++ [lt]).2.length=o.length+1 by simp] at this
     have hgs:(qaq 1000 (cur.set q (go+1,o++ [lt])))[q]? =V [.ref (1000+q) (go+1) 0 (o.length+1)]:=by
      have:=qc7 (xs:=cur.set q (go+1,o++ [lt])) (k:=1000) (i:=q) (by rw[Km];exact lq);simpa using this
     (try simp(maxSteps:=2000000) only[go_sem,simprocAttr]);(try simp(maxSteps:=2000000) (disch:=omega) only[go_sem,simprocAttr,zD,zE,eII,hz]);(refine zM [3,4,6,9,11,12,13,108] ?_;refine zI [U,U,U,U,U,U,U,U,U,U,V [],U] ?_);(try simp(maxSteps:=2000000) (disch:=omega) only[go_sem,simprocAttr,zD,zE,eII,hz]);(refine zF ?_;refine qaa (qcc N n to ls hl) zB ?_);refine zS hf ?_;refine zY (qb4 N n ls hl) ?_;(refine zG ?_;refine qaa (qfV _ _) zB ?_);refine zS (zQ hq1 hrg) ?_;(refine zM [3,4,6,9,11,12,13,14,15,108] ?_;refine zI [U,U,U,U,U,U,U,U,U,U,U,U,U,U,V [0,1,2,3,4,5,6,7],V [0,1,2],U,V []] ?_);(try simp(maxSteps:=2000000) (disch:=omega) only[go_sem,simprocAttr,zD,zE,hrg,hlk0,hset,eII,hz]);refine⟨wa,?_⟩;by_cases h500:500<=o.length
     .rw[if_pos h500] at i3;rw[<-i3] at hres;simp only at hres;subst hres;clear i3 hcs hrs hcq;(try simp(maxSteps:=2000000) (disch:=omega) only[go_sem,simprocAttr,zD,zE,hgs,zHs])
     .rw[if_neg h500] at i3;have hcur: ∀g,(List.map (λx=>x.snd) cur).set q (o++ [lt])=(cur.set q (g,o++ [lt])).map (·.2):=λg=>(hcs _ g).symm
      rw[hcur (go+1)] at i3;clear hcs hrs hcq hcur;refine zS hgs ?_;have i5': ∀l∈cur.set q (go+1,o++ [lt]),l.2.length<=500:=λl hl=>by
       rcases List.mem_or_eq_of_mem_set hl with hl | rfl
       .exact i5 l hl
       .simp only[Kn,Ko,Kp];omega
      generalize hcur:cur.set q (go+1,o++ [lt])=cur' at *;have hcl:cur'.length=cur.length:=by rw[<-hcur,Km]
      refine qbf 200 [] ⟨120, [(3, .ptr 0 0 0 0),(4, .ptr 1 0 0 0),(6, .ptr 2 0 0 0),(9, .ptr 3 0 0 0),(11, .ptr 3000000 0 0 0),(12, .ref 3000001 gs 0 sent.length),(13,sci .i64 i),(14,sci .i64 f),(15,sci .i64 q)], [],3000002,
       (3000001, .arr 3 gs (ir eIII sent))::(3000000, .arr 5 0 [[sci .i64 n,sci .i64 j,sci .i64 steps,lMs inn, .ref 4 out.length 0 out.length]])::(4, .arr 1 out.length (qaq 1000 cur'))::(3, .arr 2 0 [[sci .i64 nxt,lII sends]])::
       (2, .arr 5 0 [[sci .i64 0,sci .i64 0,sci .i64 0,nil0,nil0]])::(1, .arr 5 0 [[sci .i64 n,sci .i64 j,sci .i64 steps,lMs inn,lLs out]])::(0, .arr 4 0 [[sci .i64 N,lII ls, .p (.imm 2 (pr eNd T)),scb ff]])::qak 1000 (famB 1 eI cur')⟩ trivial ?_ ?_
      .have f0: ¬1000+q=3000000:=wa
       have f1: ¬1000+q=3000001:=wa
       have f3: ¬1000+q=3:=wa
       have f4: ¬1000+q=2:=wa
       have f5: ¬1000+q=1:=wa
       have f6: ¬1000+q=0:=wa
       constructor
       case blks=>
        (try simp(maxSteps:=2000000) only[go_sem,simprocAttr,f0,f1,f3,f4,f5,f6]);rw[<-hcur];refine qf8 (.inl rfl) ?_ λj hj hne=>?_
        .have: ¬4=1000+q:=wa
         (try simp(maxSteps:=2000000) only[go_sem,simprocAttr,this])
        .have e1: ¬4=1000+j:=wa
         have e2: ¬q=j:=λe=>hne e.symm
         have e3: ¬1000+q=1000+j:=wa
         have e5: ¬3000001=1000+j:=wa
         have e6: ¬3000000=1000+j:=wa
         have e7: ¬3=1000+j:=wa
         have e8: ¬2=1000+j:=wa
         have e9: ¬1=1000+j:=wa
         have e10: ¬0=1000+j:=wa
         have:=qa4 (sz:=1) (e:=eI) (k:=1000) (r:= []) hj;rw[Kk] at this;(try simp(maxSteps:=2000000) only[go_sem,simprocAttr,e1,e2,e3,e5,e6,e7,e8,e9,e10,this])
       all_goals exact zT
      clear hset hrg hlk hlk0;(try simp(maxSteps:=2000000) only[go_sem,simprocAttr]);(refine zM [3,4,6,9,11,12,13,14,15] ?_;refine zI [U,U,U,U,U,U,U,U,U,U,U,U,U,U,U,U,V [0],V [],U] ?_);(try simp(maxSteps:=2000000) (disch:=omega) only[go_sem,simprocAttr,zD,zE,hgs,eII,hz]);refine⟨(i+1,cur',gs+1,sent++ [(f,(o.length:Int)+1,lt)]), [],⟨li,wc,by simp only[Kn,Ko,Kp];omega,i5',i3⟩,wc,?_⟩;constructor
      case blks=>
       (try simp(maxSteps:=2000000) only[go_sem,simprocAttr,ir_snoc,eIII,Ke,Kf]);refine qbW (.inl rfl) λj hj=>?_;have e5: ¬3000001=1000+j:=wa
       have e6: ¬3000000=1000+j:=wa
       have e7: ¬3=1000+j:=wa
       have e8: ¬2=1000+j:=wa
       have e9: ¬1=1000+j:=wa
       have e10: ¬0=1000+j:=wa
       have e1: ¬4=1000+j:=wa
       have:=qa4 (sz:=1) (e:=eI) (k:=1000) (r:= []) hj;rw[Kk] at this;(try simp(maxSteps:=2000000) only[go_sem,simprocAttr,e1,e5,e6,e7,e8,e9,e10,this])
      all_goals(try simp(maxSteps:=2000000) (disch:=omega) only[go_sem,simprocAttr,zD,zE,ir_snoc])
    .obtain rfl:i=sends.length:=wa
     rw[List.drop_length,pkGo] at i3;rw[<-i3] at hres;simp only at hres;subst hres;clear i3;(try simp(maxSteps:=2000000) (disch:=omega) only[go_sem,simprocAttr,zD,zE]);rw[qe5];refine qbf 200 (List.range' 1000 out.length) ⟨120, [(3, .ptr 0 0 0 0),(4, .ptr 1 0 0 0),(6, .ptr 2 0 0 0),(9, .ptr 3 0 0 0),(11, .ptr 3000000 0 0 0),(12, .ref 3000001 gs 0 sent.length)], [],3000002,
      [(3000001, .arr 3 gs (ir eIII sent)),(3000000, .arr 5 0 [[sci .i64 n,sci .i64 j,sci .i64 steps,lMs inn, .ref 4 out.length 0 out.length]]),(4, .arr 1 out.length (ir eLs (cur.map (·.2)))),(3, .arr 2 0 [[sci .i64 nxt,lII sends]]),
      (2, .arr 5 0 [[sci .i64 0,sci .i64 0,sci .i64 0,nil0,nil0]]),(1, .arr 5 0 [[sci .i64 n,sci .i64 j,sci .i64 steps,lMs inn,lLs out]]),(0, .arr 4 0 [[sci .i64 N,lII ls, .p (.imm 2 (pr eNd T)),scb ff]])]⟩ trivial ?_ ?_
     .constructor
      case gone=>
       refine qlr (λb hb=>Nat.zero_le _) λp hp hb=>?_;rw[Kq] at hb;simp only[List.mem_cons,List.not_mem_nil,or_false] at hp;rcases hp with rfl | rfl | rfl | rfl | rfl | rfl | rfl<;>(simp only at hb;omega)
      case blks=>
       (try simp(maxSteps:=2000000) only[go_sem,simprocAttr]);refine qh6 (e:=eI) (sz:=1) (λl=>rfl) λj hj=>⟨by rw[Kq];omega,?_⟩;have e1: ¬4=1000+j:=wa
       have e5: ¬3000001=1000+j:=wa
       have e6: ¬3000000=1000+j:=wa
       have e7: ¬3=1000+j:=wa
       have e8: ¬2=1000+j:=wa
       have e9: ¬1=1000+j:=wa
       have e10: ¬0=1000+j:=wa
       have:=qa4 (sz:=1) (e:=eI) (k:=1000) (r:= []) hj;rw[Kk] at this;(try simp(maxSteps:=2000000) only[go_sem,simprocAttr,e1,e5,e6,e7,e8,e9,e10,this])
      all_goals exact zT
     have hcl:(cur.map (·.2)).length=out.length:=by rw[List.length_map];omega
     have htk:(ir eLs (cur.map (·.2))).take out.length=ir eLs (cur.map (·.2)):=Kb wH;generalize cur.map (·.2)=outv at *;clear hrl i2;exact zy htk
def qn5(N:Int)(ls:List (Int × Int))(T:List Nd)(ff:Bool)(room:Nat)(acts:List (Int × Int × Int))(n:Int)(m:Nat)(x:Nd)(hl:ls.length<=1000000)(hm:(m:Int)=if n < 0\/N<=n then 0 else n)(hx:T[m]? =V x):
  Pure prog 45 [lApp ⟨N,ls,T,ff,room,acts⟩,sci .i64 n] (lHs ⟨m,x.start,0,Ka (ins m 0 ls).length [],Ka (outs m 0 ls).length []⟩):=by
 obtain⟨ln,ex⟩:=List.getElem?_eq_some_iff.1 hx;obtain⟨st,ss⟩:=x;have hz:Pure prog 45 [lApp ⟨N,ls,T,ff,room,acts⟩,sci .i64 n] (.agg [sci .i64 m,sci .i64 st,sci .i64 0, .p (.imm 1 (pr eZ (Ka (ins m 0 ls).length ()))), .p (.imm 1 (pr eZ (Ka (outs m 0 ls).length ())))]):=by
  have hi1:=qhF m ls 0;have ho1:=qgx m ls 0;refine zAa func45 λhs=>?_;by_cases c1:n < 0
  .rw[if_pos (.inl c1)] at hm;obtain rfl:m=0:=wa
   rw[Kr] at hi1 ho1;refine zS c1 ?_;(try simp(maxSteps:=2000000) (disch:=omega) only[go_sem,simprocAttr,zD,zE,ex,eNd]);refine walk_ownB 2 0 3 1 trivial rfl rfl rfl (.inr rfl) ?_;simp only[Kg,Kh,Kt];refine zM [1,2,4,5,6,108] ?_;refine qac 200 200 (λi:Nat=>i<=(ins 0 0 ls).length)
    (λi=>⟨54, [(1,sci .i64 0),(2, .ptr 0 0 0 0),(4, .ptr 1 0 0 0),(5, .ptr 2 0 0 0),(6,sci .i64 i)], [],4, [(3, .arr 1 i (ir eZ (Ka i ()))),(2, .arr 5 0 [[sci .i64 0,sci .i64 st,sci .i64 0, .ref 3 i 0 i,nil0]]),(1, .arr 5 0 [[sci .i64 0,sci .i64 0,sci .i64 0,nil0,nil0]]),(0, .arr 4 0 [[sci .i64 N,lII ls, .p (.imm 2 (pr eNd T)),scb ff]])]⟩) (λi=>(ins 0 0 ls).length - i) (0) [] ?_ ?_ ?_
   .simp
   .exact zc (zQ @Kr (zQ @Kb.{0} (zQ @Kc.{0} @Ki.{0})))
   .rintro i hi;(try simp(maxSteps:=2000000) only[go_sem,simprocAttr]);by_cases li:i < (ins 0 0 ls).length
    ·(refine zG ?_;refine qaa (qcm N 0 ls hl) zB ?_;(try simp(maxSteps:=2000000) only[go_sem,simprocAttr]));have hti:(Ka i ()).take i=Ka i ():=Kb wb;refine zS @Kd.{0} ?_;refine⟨i+1, [],wd,?_,?_⟩
     ·(try simp only[]);omega
     .constructor<;>(try simp(maxSteps:=2000000) (disch:=omega) only[go_sem,simprocAttr,zD,zE,Kj,Kd,hti,ir_snoc,eZ,Ke,Kf,Kc])
    .obtain rfl:i=(ins 0 0 ls).length:=wa
     refine zY (qcm N 0 ls hl) ?_;refine walk_ownB 2 0 4 1 trivial rfl rfl rfl (.inr rfl) ?_;simp only[Kg,Kh,Kt];refine zM [1,2,4,5,7,108] ?_;refine qac 200 200 (λj:Nat=>j<=(outs 0 0 ls).length)
      (λj=>⟨54, [(1,sci .i64 0),(2, .ptr 0 0 0 0),(4, .ptr 1 0 0 0),(5, .ptr 2 0 0 0),(7,sci .i64 j)], [],5, [(4, .arr 1 j (ir eZ (Ka j ()))),(3, .arr 1 (ins 0 0 ls).length (ir eZ (Ka (ins 0 0 ls).length ()))),(2, .arr 5 0 [[sci .i64 0,sci .i64 st,sci .i64 0, .ref 3 (ins 0 0 ls).length 0 (ins 0 0 ls).length, .ref 4 j 0 j]]),(1, .arr 5 0 [[sci .i64 0,sci .i64 0,sci .i64 0,nil0,nil0]]),(0, .arr 4 0 [[sci .i64 N,lII ls, .p (.imm 2 (pr eNd T)),scb ff]])]⟩) (λj=>(outs 0 0 ls).length - j) (0) [] ?_ ?_ ?_
     .simp
     .exact zc (zQ @Kr (zQ @Kb.{0} (zQ @Kc.{0} @Ki.{0})))
     .rintro j hj;(try simp(maxSteps:=2000000) only[go_sem,simprocAttr]);by_cases lj:j < (outs 0 0 ls).length
      ·(refine zG ?_;refine qaa (qb4 N 0 ls hl) zB ?_;(try simp(maxSteps:=2000000) only[go_sem,simprocAttr]));have hti:(Ka j ()).take j=Ka j ():=Kb wb;refine zS @Kd.{0} ?_;refine⟨j+1, [],wd,?_,?_⟩
       ·(try simp only[]);omega
       .constructor<;>(try simp(maxSteps:=2000000) (disch:=omega) only[go_sem,simprocAttr,zD,zE,Kj,Kd,hti,ir_snoc,eZ,Ke,Kf,Kc])
      .obtain rfl:j=(outs 0 0 ls).length:=wa
       (refine zG ?_;refine qaa (qb4 N 0 ls hl) zB ?_;(try simp(maxSteps:=2000000) only[go_sem,simprocAttr]));have h1:(Ka (ins 0 0 ls).length ()).take (ins 0 0 ls).length=Ka (ins 0 0 ls).length ():=Kb wb;have h2:(Ka (outs 0 0 ls).length ()).take (outs 0 0 ls).length=Ka (outs 0 0 ls).length ():=Kb wb;exact zy (zQ h1 (zQ h2 @Kr))
  .by_cases c2:N<=n
   .rw[if_pos (.inr c2)] at hm;obtain rfl:m=0:=wa
    rw[Kr] at hi1 ho1;refine zS (zQ c1 c2) ?_;(try simp(maxSteps:=2000000) (disch:=omega) only[go_sem,simprocAttr,zD,zE,ex,eNd]);refine walk_ownB 2 0 3 1 trivial rfl rfl rfl (.inr rfl) ?_;simp only[Kg,Kh,Kt];refine zM [1,2,4,5,6,108] ?_;refine qac 200 200 (λi:Nat=>i<=(ins 0 0 ls).length)
     (λi=>⟨54, [(1,sci .i64 0),(2, .ptr 0 0 0 0),(4, .ptr 1 0 0 0),(5, .ptr 2 0 0 0),(6,sci .i64 i)], [],4, [(3, .arr 1 i (ir eZ (Ka i ()))),(2, .arr 5 0 [[sci .i64 0,sci .i64 st,sci .i64 0, .ref 3 i 0 i,nil0]]),(1, .arr 5 0 [[sci .i64 0,sci .i64 0,sci .i64 0,nil0,nil0]]),(0, .arr 4 0 [[sci .i64 N,lII ls, .p (.imm 2 (pr eNd T)),scb ff]])]⟩) (λi=>(ins 0 0 ls).length - i) (0) [] ?_ ?_ ?_
    .simp
    .exact zc (zQ @Kr (zQ @Kb.{0} (zQ @Kc.{0} @Ki.{0})))
    .rintro i hi;(try simp(maxSteps:=2000000) only[go_sem,simprocAttr]);by_cases li:i < (ins 0 0 ls).length
     ·(refine zG ?_;refine qaa (qcm N 0 ls hl) zB ?_;(try simp(maxSteps:=2000000) only[go_sem,simprocAttr]));have hti:(Ka i ()).take i=Ka i ():=Kb wb;refine zS @Kd.{0} ?_;refine⟨i+1, [],wd,?_,?_⟩
      ·(try simp only[]);omega
      .constructor<;>(try simp(maxSteps:=2000000) (disch:=omega) only[go_sem,simprocAttr,zD,zE,Kj,Kd,hti,ir_snoc,eZ,Ke,Kf,Kc])
     .obtain rfl:i=(ins 0 0 ls).length:=wa
      refine zY (qcm N 0 ls hl) ?_;refine walk_ownB 2 0 4 1 trivial rfl rfl rfl (.inr rfl) ?_;simp only[Kg,Kh,Kt];refine zM [1,2,4,5,7,108] ?_;refine qac 200 200 (λj:Nat=>j<=(outs 0 0 ls).length)
       (λj=>⟨54, [(1,sci .i64 0),(2, .ptr 0 0 0 0),(4, .ptr 1 0 0 0),(5, .ptr 2 0 0 0),(7,sci .i64 j)], [],5, [(4, .arr 1 j (ir eZ (Ka j ()))),(3, .arr 1 (ins 0 0 ls).length (ir eZ (Ka (ins 0 0 ls).length ()))),(2, .arr 5 0 [[sci .i64 0,sci .i64 st,sci .i64 0, .ref 3 (ins 0 0 ls).length 0 (ins 0 0 ls).length, .ref 4 j 0 j]]),(1, .arr 5 0 [[sci .i64 0,sci .i64 0,sci .i64 0,nil0,nil0]]),(0, .arr 4 0 [[sci .i64 N,lII ls, .p (.imm 2 (pr eNd T)),scb ff]])]⟩) (λj=>(outs 0 0 ls).length - j) (0) [] ?_ ?_ ?_
      .simp
      .exact zc (zQ @Kr (zQ @Kb.{0} (zQ @Kc.{0} @Ki.{0})))
      .rintro j hj;(try simp(maxSteps:=2000000) only[go_sem,simprocAttr]);by_cases lj:j < (outs 0 0 ls).length
       ·(refine zG ?_;refine qaa (qb4 N 0 ls hl) zB ?_;(try simp(maxSteps:=2000000) only[go_sem,simprocAttr]));have hti:(Ka j ()).take j=Ka j ():=Kb wb;refine zS @Kd.{0} ?_;refine⟨j+1, [],wd,?_,?_⟩
        ·(try simp only[]);omega
        .constructor<;>(try simp(maxSteps:=2000000) (disch:=omega) only[go_sem,simprocAttr,zD,zE,Kj,Kd,hti,ir_snoc,eZ,Ke,Kf,Kc])
       .obtain rfl:j=(outs 0 0 ls).length:=wa
        (refine zG ?_;refine qaa (qb4 N 0 ls hl) zB ?_;(try simp(maxSteps:=2000000) only[go_sem,simprocAttr]));have h1:(Ka (ins 0 0 ls).length ()).take (ins 0 0 ls).length=Ka (ins 0 0 ls).length ():=Kb wb;have h2:(Ka (outs 0 0 ls).length ()).take (outs 0 0 ls).length=Ka (outs 0 0 ls).length ():=Kb wb;exact zy (zQ h1 (zQ h2 @Kr))
   .rw[if_neg wa] at hm;subst hm;refine zS (zQ c1 c2) ?_;(try simp(maxSteps:=2000000) (disch:=omega) only[go_sem,simprocAttr,zD,zE,ex,eNd]);refine walk_ownB 2 0 3 1 trivial rfl rfl rfl (.inr rfl) ?_;simp only[Kg,Kh,Kt];refine zM [1,2,4,5,6,108] ?_;refine qac 200 200 (λi:Nat=>i<=(ins m 0 ls).length)
     (λi=>⟨54, [(1,sci .i64 m),(2, .ptr 0 0 0 0),(4, .ptr 1 0 0 0),(5, .ptr 2 0 0 0),(6,sci .i64 i)], [],4, [(3, .arr 1 i (ir eZ (Ka i ()))),(2, .arr 5 0 [[sci .i64 m,sci .i64 st,sci .i64 0, .ref 3 i 0 i,nil0]]),(1, .arr 5 0 [[sci .i64 0,sci .i64 0,sci .i64 0,nil0,nil0]]),(0, .arr 4 0 [[sci .i64 N,lII ls, .p (.imm 2 (pr eNd T)),scb ff]])]⟩) (λi=>(ins m 0 ls).length - i) (0) [] ?_ ?_ ?_
    .simp
    .exact zc (zQ @Kr (zQ @Kb.{0} (zQ @Kc.{0} @Ki.{0})))
    .rintro i hi;(try simp(maxSteps:=2000000) only[go_sem,simprocAttr]);by_cases li:i < (ins m 0 ls).length
     ·(refine zG ?_;refine qaa (qcm N m ls hl) zB ?_;(try simp(maxSteps:=2000000) only[go_sem,simprocAttr]));have hti:(Ka i ()).take i=Ka i ():=Kb wb;refine zS @Kd.{0} ?_;refine⟨i+1, [],wd,?_,?_⟩
      ·(try simp only[]);omega
      .constructor<;>(try simp(maxSteps:=2000000) (disch:=omega) only[go_sem,simprocAttr,zD,zE,Kj,Kd,hti,ir_snoc,eZ,Ke,Kf,Kc])
     .obtain rfl:i=(ins m 0 ls).length:=wa
      refine zY (qcm N m ls hl) ?_;refine walk_ownB 2 0 4 1 trivial rfl rfl rfl (.inr rfl) ?_;simp only[Kg,Kh,Kt];refine zM [1,2,4,5,7,108] ?_;refine qac 200 200 (λj:Nat=>j<=(outs m 0 ls).length)
       (λj=>⟨54, [(1,sci .i64 m),(2, .ptr 0 0 0 0),(4, .ptr 1 0 0 0),(5, .ptr 2 0 0 0),(7,sci .i64 j)], [],5, [(4, .arr 1 j (ir eZ (Ka j ()))),(3, .arr 1 (ins m 0 ls).length (ir eZ (Ka (ins m 0 ls).length ()))),(2, .arr 5 0 [[sci .i64 m,sci .i64 st,sci .i64 0, .ref 3 (ins m 0 ls).length 0 (ins m 0 ls).length, .ref 4 j 0 j]]),(1, .arr 5 0 [[sci .i64 0,sci .i64 0,sci .i64 0,nil0,nil0]]),(0, .arr 4 0 [[sci .i64 N,lII ls, .p (.imm 2 (pr eNd T)),scb ff]])]⟩) (λj=>(outs m 0 ls).length - j) (0) [] ?_ ?_ ?_
      .simp
      .exact zc (zQ @Kr (zQ @Kb.{0} (zQ @Kc.{0} @Ki.{0})))
      .rintro j hj;(try simp(maxSteps:=2000000) only[go_sem,simprocAttr]);by_cases lj:j < (outs m 0 ls).length
       ·(refine zG ?_;refine qaa (qb4 N m ls hl) zB ?_;(try simp(maxSteps:=2000000) only[go_sem,simprocAttr]));have hti:(Ka j ()).take j=Ka j ():=Kb wb;refine zS @Kd.{0} ?_;refine⟨j+1, [],wd,?_,?_⟩
        ·(try simp only[]);omega
        .constructor<;>(try simp(maxSteps:=2000000) (disch:=omega) only[go_sem,simprocAttr,zD,zE,Kj,Kd,hti,ir_snoc,eZ,Ke,Kf,Kc])
       .obtain rfl:j=(outs m 0 ls).length:=wa
        (refine zG ?_;refine qaa (qb4 N m ls hl) zB ?_;(try simp(maxSteps:=2000000) only[go_sem,simprocAttr]));have h1:(Ka (ins m 0 ls).length ()).take (ins m 0 ls).length=Ka (ins m 0 ls).length ():=Kb wb;have h2:(Ka (outs m 0 ls).length ()).take (outs m 0 ls).length=Ka (outs m 0 ls).length ():=Kb wb;exact zy (zQ h1 (zQ h2 @Kr))
 have:=qfE (λM v=>qjY) hz;simpa using this
end Go.Proofs.NO
