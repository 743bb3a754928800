/- Facts leant on. -/
import Derived.Test.YtfhhdgkhajkapaaGreatGN
import Derived.Test.YtfhhdgkhajkapaaGreatNzS2
import Derived.Test.YtfhhdgkhajkapaaGreatNzFb
import Derived.Test.YtfhhdgkhajkapaaGreatNMe
import Derived.Test.YtfhhdgkhajkapaaGreatNzP2
import Derived.Test.YtfhhdgkhajkapaaGreatNMd
import Derived.Test.YtfhhdgkhajkapaaGreatNPC
import Derived.Test.YtfhhdgkhajkapaaGreatIdNl
import Derived.Test.YtfhhdgkhajkapaaGreatRows
set_option linter.all false
open List renaming replicate->Ka,take_of_length_le->Kb,length_map->Kc,pairwise_cons->Kd,getElem?_eq_getElem->Ke,append_assoc->Kf,set_cons_zero->Kg,getElem_mem->Kh,take_zero->Ki,set_cons_succ->Kj,take_succ_eq_append_getElem->Kk,getElem_map->Kl,length_take->Km,take_take->Kn,map_cons->Ko,map_nil->Kp,pairwise_iff_getElem->Kq,nodup_iff_pairwise_ne->Kr
open Int renaming natCast_zero->Ks,toNat_natCast->Kt
open Nat renaming le_refl->Ku,sub_self->Kv,reduceAdd->Kw,min_self->Kx,zero_le->Ky
open Option renaming none->U,some->V
/- A host takes a message. -/
namespace Go.Proofs.NO
open Go Go.Idl Go.Proofs Go.GP Go.Proofs.Tryz
set_option maxHeartbeats 0
set_option maxRecDepth 100000
def zH:Hs:=⟨0,0,0, [], []⟩
noncomputable def takeH(ls:List (Int × Int))(st:St)(h:Hs)(x:Int)(m:Int × Int):Hs × Int:=
 if indexL x 0 (ins h.node 0 ls) < 0\/m.1 < 1\/500 < m.1\/m.2 < 0\/4<=m.2 then(zH,1)
 else match h.inn[(indexL x 0 (ins h.node 0 ls)).toNat]?,ls[x.toNat]? with
 | some l,V lk=>if tB (∃y,l[posL m.1 l]? =V y/\y.1=m.1)=true then(zH,1)
   else(⟨h.node,qbu lk.1 m.2 h.state st.takes,h.steps+1,h.inn.set (indexL x 0 (ins h.node 0 ls)).toNat (l.take (posL m.1 l)++m::l.drop (posL m.1 l)),h.out⟩,0)
 | _,_=>(zH,1)
def qiA{l:List (List (Int × Int))}{i0 b n i:Nat}(h0:i0 < l.length):(qav l i0 b n i)[i0]? =V [.ref b 0 0 n]:=by
 unfold qav;have:(ir eMs (l.take i0)).length=i0:=wH
 rw[List.getElem?_append_right wa,this,Kv];rfl
def qiB{l:List (List (Int × Int))}{i0 b n:Nat}(h0:i0 < l.length){x:List (Int × Int)}:(qav l i0 b n l.length).set i0 [.p (.imm 2 (pr eII x))]=ir eMs (l.set i0 x):=by
 unfold qav;have hl:(ir eMs (l.take i0)).length=i0:=wH
 rw[List.set_append_right _ _ wa,hl,Kv,Kg,Kb (Ku _),List.set_eq_take_append_cons_drop,if_pos h0];simp[ir,eMs]
def qi1(q:Int): ∀l:List (Int × Int),posL q l<=l.length
 | []=>by simp[posL]
 | x::r=>by
   have:=qi1 q r;unfold posL;split<;>simp<;>omega
def qr9{a b:Int}:ir eII [(a,b)]= [[sci .i64 a,sci .i64 b]]:=rfl
def qiV{n l:Int}: ∀ {ls:List (Int × Int)} {i:Nat},l∈ins n i ls-> ∃j,∃hj:j < ls.length,l=((i+j:Nat):Int)/\ls[j].2=n
 | [],i,h=>by simp[ins] at h
 | x::r,i,h=>by
   unfold ins at h;have go:l∈ins n (i+1) r-> ∃j,∃hj:j < (x::r).length,l=((i+j:Nat):Int)/\(x::r)[j].2=n:=λh=>by
    obtain⟨j,hj,e1,e2⟩:=qiV h;exact⟨j+1,by simpa using hj,by rw[e1];congr 1;omega,by simpa using e2⟩
   split at h
   .rename_i hx;rcases List.mem_cons.1 h with h | h
    .exact⟨0,wb,wE,by simpa using hx⟩
    .exact go h
   .exact go h
@[go_sem] def qgG{l:List (List (Int × Int))}{i0 k n i:Nat}:rnRw (ridx [] k) (qav l i0 1 n i)=qav l i0 (k+1) n i:=by
  unfold qav;simp only[go_sem]
def qpd(s:Sc)(h:Hs)(x:Int)(m:Int × Int)(n j:Nat)(nd:Nd)(st:St)(hn:h.node=n)(hj:h.state=j)(hx:s.T[n]? =V nd)(hq:nd.states[j]? =V st)(hg:gHs h)(hl:s.ls.length<=1000000)(hk:st.takes.length<=1000000)
  (hi:h.inn.length=(ins h.node 0 s.ls).length) (hu: ∀l∈h.inn,UpH l/\l.length<=1000) (h0:0<=h.steps/\h.steps<=2147483647):
  Pure prog 29 [lApp s,lHs h,sci .i64 x, .agg [sci .i64 m.1,sci .i64 m.2]] (.tup [lHs (takeH s.ls st h x m).1,sci .i64 (takeH s.ls st h x m).2]):=by
 obtain⟨N,ls,T,ff,room,acts⟩:=s;obtain⟨node,state,steps,inn,out⟩:=h;obtain⟨q1,q2⟩:=m;obtain⟨b2,b3,b4,b5⟩:=id hg;simp only at hn hj hx hl hi hu h0 b2 b3 b4 b5;subst hn hj;generalize hres:takeH ls st ⟨n,j,steps,inn,out⟩ x (q1,q2)=res;unfold takeH at hres;simp only at hres;refine zAb func29 λhs=>?_;refine zY (qdl N n ls hl) ?_;(refine zG ?_;refine qaa (qb3 _ _) zB ?_;refine zV ?_);by_cases c1:indexL x 0 (ins n 0 ls) < 0
 .rw[if_pos (.inl c1)] at hres;subst hres;(try simp(maxSteps:=2000000) (disch:=omega) only[go_sem,simprocAttr,zD,zE,c1,zH])
 by_cases c2:q1 < 1
 .rw[if_pos (.inr (.inl c2))] at hres;subst hres;(try simp(maxSteps:=2000000) (disch:=omega) only[go_sem,simprocAttr,zD,zE,c1,c2,zH])
 by_cases c3:500 < q1
 .rw[if_pos (.inr (.inr (.inl c3)))] at hres;subst hres;(try simp(maxSteps:=2000000) (disch:=omega) only[go_sem,simprocAttr,zD,zE,c1,c2,c3,zH])
 by_cases c4:q2 < 0
 .rw[if_pos (.inr (.inr (.inr (.inl c4))))] at hres;subst hres;(try simp(maxSteps:=2000000) (disch:=omega) only[go_sem,simprocAttr,zD,zE,c1,c2,c3,c4,zH])
 by_cases c5:4<=q2
 .rw[if_pos (.inr (.inr (.inr (.inr c5))))] at hres;subst hres;(try simp(maxSteps:=2000000) (disch:=omega) only[go_sem,simprocAttr,zD,zE,c1,c2,c3,c4,c5,zH])
 rw[if_neg (λq=>q.elim c1 λq=>q.elim c2 λq=>q.elim c3 λq=>q.elim c4 c5)] at hres;rcases indexL_at x (ins n 0 ls) with e | ⟨i,e,hil,hig⟩
 .exact absurd wa c1
 have lin:i < inn.length:=wa
 rw[e,Kt,Ke lin] at hres;obtain⟨kx,hkx,rfl,hlk⟩:=qiV (List.mem_of_getElem? hig);simp only[Nat.zero_add] at hig e hres;rw[Kt,Ke hkx] at hres;simp only at hres;obtain⟨hup,hrl⟩:=hu _ (Kh lin);have hblk:=qol ⟨n,j,steps,inn,out⟩ hg i lin;simp only at hblk;generalize hrow:inn[i]=row at *;generalize hlx:ls[kx]=lk at *;obtain⟨la,lb⟩:=lk;have c1': ¬((i:Int) < 0):=wa
 refine zS (zQ e (zQ c1' (zQ c2 (zQ c3 (zQ c4 c5))))) ?_;(refine zM [2,4,5,7,8,10] ?_;refine zI [U,U,U,U,U,U,U,V [],U,U,U,U,U] ?_);(try simp(maxSteps:=2000000) (disch:=omega) only[go_sem,simprocAttr,zD,zE,eMs,hrow]);(refine zF ?_;refine qaa (qrG row q1 hup hrl) zB ?_;refine zV ?_);cases hf:tB (∃y,row[posL q1 row]? =V y/\y.fst=q1) with
 | true=>
   rw[hf,if_pos rfl] at hres;subst hres;(try simp(maxSteps:=2000000) (disch:=omega) only[go_sem,simprocAttr,zD,zE,hf,zH])
 | false=>
   rw[hf,if_neg wh] at hres;subst hres;refine zS hf ?_;(refine at_gr 200 ?_;refine zW ?_;refine callG_of [] (hblk) zU ?_;refine zV ?_);have hg1:=qiA (l:=inn) (i0:=i) (b:=5) (n:=row.length) (i:=inn.length) lin;refine zP ?_;refine zM [2,4,5,7,8,10,11,13,45] ?_;refine qif (id:=8) (n:=200) [U,U,U,U,U,U,U,U,U,U,V [0,1,2,3,4,5,6,7,8],V [0,1,2],U,V []] mixed we (qfl 10 ?_);simp only[List.take_succ_cons,Ki,List.drop_succ_cons,List.drop_zero];(try simp(maxSteps:=2000000) only[go_sem,simprocAttr,lin,hg1]);refine qqx (zs:= [(0, .agg [sci .i64 q1,sci .i64 q2])]) (sz:=2) (cs:= [sci .i64 q1,sci .i64 q2]) ?_ ?_ ?_ ?_ ?_
   .rfl
   .exact zT
   ·(try simp(maxSteps:=2000000) only[go_sem,simprocAttr,flit])
   .rfl
   (try simp(maxSteps:=2000000) only[go_sem,simprocAttr,qa7]);(refine qbI ?_;refine zW ?_;refine callG_of [5,7] (qmo row (q1,q2) (posL q1 row) (qi1 q1 row) wa) (by simp(maxSteps:=2000000) (disch:=omega) only[go_sem,simprocAttr,zD,zE,qr9]) ?_);(try simp(maxSteps:=2000000) only[go_sem,simprocAttr,lin,hg1,qiB lin]);(refine zM [2,4,5,7,8,13,45] ?_;refine zI [U,U,U,U,U,U,U,U,U,U,U,U,U,U,U,V [],U,V []] ?_);(try simp(maxSteps:=2000000) (disch:=omega) only[go_sem,simprocAttr,zD,zE,hlx,eII]);refine zX (qn9 T n j nd st hx hq la q2 hk) ?_;rw[Kb wb]
def qln{G:Nat->Option IBlk}{ids:List Nat}{rs:List (List IV)}{i:Nat}{r r':List IV}(h:fws G ids r r'):fwRs G ids (rs.set i r) (rs.set i r'):=by
 refine .inr ⟨wb,λk a b ha hb=>?_⟩;rw[List.getElem?_set] at ha hb;by_cases e:i=k
 .subst e;rw[if_pos rfl] at ha hb;split at ha
  .rename_i c;rw[if_pos c] at hb;cases ha;cases hb;exact h
  .cases ha
 .rw[if_neg e] at ha hb;rw[ha] at hb;cases hb;exact fws_self a
end Go.Proofs.NO
/- What a host tells without logs. -/
namespace Go.Proofs.NO
open Go Go.Idl Go.Proofs Go.Proofs.Tryz
set_option maxHeartbeats 0
set_option maxRecDepth 100000
def pvs2_rep0: ∀n:Nat,pvs2 (Ka n [nil0])=V (Ka n [.sc (.slice U 0 0)])
 | 0=>rfl
 | n+1=>by simp only[List.replicate_succ,pvs2,pvs,pvs2_rep0 n];rfl
def qfG(n:Nat):pvs2 (List.take n (Ka n [nil0]))=V (Ka n [.sc (.slice U 0 0)]):=by
 rw[Kb wb,pvs2_rep0]
def qmB(h:Hs)(hg:gHs h):Pure prog 84 [lHs h,scb false] (.agg [sci .i64 h.node,sci .i64 h.state,sci .i64 h.steps,lI (h.out.map λl=>(l.length:Int)), .p (.imm 1 (Ka h.inn.length [.sc (.slice U 0 0)])),nil0]):=by
 have hg2:=hg;obtain⟨node,state,steps,inn,out⟩:=h;obtain⟨h2,h3,h4,h5⟩:=hg;simp only at h2 h3 h4 h5;refine zAb func84 λhs=>?_;(refine zG ?_;refine qaa (qd2 ⟨node,state,steps,inn,out⟩) zB ?_);refine zV ?_;(refine qk7 200 ?_;refine zW ?_;refine qaa (qja ⟨node,state,steps,inn,out⟩ hg2) zB ?_);refine zP ?_;refine walk_ownB 2 0 3 1 trivial rfl rfl rfl (.inr rfl) ?_;simp only[Kg,Kj,Kw];obtain⟨X,hX⟩: ∃X:List Int,X=out.map λl=>(l.length:Int):=⟨_,rfl⟩;have hXl:X.length=out.length:=by rw[hX,Kc]
 have hXs: ∀(i:Nat) (li:i < out.length),X.take (i+1)=X.take i++ [(out[i].length:Int)]:=λi li=>by
  rw[hX,Kk (by rw[Kc];exact li),Kl]
 rw[<-hX];clear hX;refine zM [4,5,20,21,22,75] ?_;refine qac 200 200 (λi:Nat × Nat=>i.1<=out.length)
  (λi=>⟨35, [(4, .ptr 1 0 0 0),(5, .ptr 2 0 0 0),(20,lLs out),(21,sci .i64 out.length),(22,sci .i64 i.1)], [],5, [(4, .arr 1 i.2 (ir eI (X.take i.1))),(3, .arr 1 0 (Ka inn.length [nil0])),(2, .arr 6 0 [[sci .i64 node,sci .i64 state,sci .i64 steps, .ref 4 i.2 0 i.1, .ref 3 0 0 inn.length,nil0]]),(1, .arr 6 0 [[sci .i64 0,sci .i64 0,sci .i64 0,nil0,nil0,nil0]]),(0, .arr 5 0 [[sci .i64 node,sci .i64 state,sci .i64 steps,lMs inn,lLs out]])]⟩) (λi=>out.length - i.1) (0,0) [] ?_ ?_ ?_
 .simp
 .exact zc (zQ @Ks (zQ @Kb.{0} (zQ @Kf.{0} @Ki.{0})))
 .rintro⟨i,g⟩ hi;simp only at hi;refine zV ?_;by_cases li:i < out.length
  .have hl5:=h5 out[i] (Kh li);have hpt:X.take (i+1)=X.take i++ [(out[i].length:Int)]:=hXs i li;have htt:(X.take i).length=i:=by rw[Km];omega
   have hti:(X.take i).take i=X.take i:=by rw[Kn,Kx]
   (try simp(maxSteps:=2000000) (disch:=omega) only[go_sem,simprocAttr,zD,zE,eLs,htt]);refine⟨(i+1,g+1), [],wd,?_,?_⟩
   ·(try simp only[]);omega
   .exact zc (zQ hpt (zQ hti (zQ @ir_snoc (zQ @Ko.{0,0} (zQ @Kp.{0,0} @Kf.{0})))))
  .obtain rfl:i=out.length:=wa
   have e:X.take out.length=X:=Kb wa;exact zy (zQ e @qfG)
end Go.Proofs.NO
/- The first host of a node, the program's and the document's. -/
namespace Go.Proofs.NO
open Go Go.Idl Go.Proofs Go.GP Go.Proofs.Tryz
set_option maxHeartbeats 0
set_option maxRecDepth 100000
def eZ(_:Unit):List PV:= [.sc (.slice U 0 0)]
def qfE{P:Program}{f:FuncId}{args:List IV}{R:List (Nat × IBlk)}{x y:IV}(h: ∀M v,VRel M x v->VRel M y v)(p:PCall P f args R x):PCall P f args R y:=by
 intro hh hR M vs hM hl hr;refine Calls.mono (p hh hR M vs hM hl hr) λe w' ⟨M',nx',l',r,h1,h2,h3,h4,h5,h6,h7⟩=>⟨M',nx',l', .ret y,h1,h2,h3,?_,rfl,h6,h7⟩;subst h5;obtain⟨v,e1,e2⟩:=h4;exact⟨v,e1,h _ _ e2⟩
def qgC{w:World}{own:Nat->Prop}{Z:List Unit}{sz:Nat}{v:Value}(h:PRel w own (.imm 1 (pr eZ Z)) v):PRel w own (.imm 1 (Ka Z.length [.imm sz []])) v:=by
 generalize hr:pr eZ Z=rows at h;have hg: ∀i,i < Z.length->rows[i]? =V [.sc (.slice U 0 0)]:=λi hi=>by rw[<-hr];simp[pr,eZ,hi]
 have hl:rows.length=Z.length:=by rw[<-hr];simp[pr]
 cases h with
 | imm sz rows a cap c o f h1 h2 h3 h4 h5 h6=>
   have e:rows.length=(Ka Z.length [PV.imm sz []]).length:=by simp[hl]
   have key: ∀(i:Nat) (row:List PV),(Ka Z.length [PV.imm sz []])[i]? =V row->i < Z.length/\row= [PV.imm sz []]:=λi row hi=>by
    obtain⟨h7,h8⟩:=List.getElem?_eq_some_iff.1 hi;exact⟨by simpa using h7,by simpa using h8.symm⟩
   rw[e];refine .imm 1 _ a cap c o f wm h2 (λq=>h3 (by rw[e];exact q)) (λi row hi=>by rw[(key i row hi).2];rfl) (λi row j x hi hj=>?_) λi row j x hi hj=>?_
   .obtain⟨k1,rfl⟩:=key i row hi;cases j with
    | zero=>exact h5 i _ 0 _ (hg i k1) rfl
    | succ j=>simp at hj
   .obtain⟨k1,rfl⟩:=key i row hi;cases j with
    | zero=>
      simp at hj;subst hj;have:=h6 i _ 0 _ (hg i k1) rfl;generalize f i 0=u at this;cases this;exact .imm _ [] U 0 0 0 (λ_ _=> .slice U 0 0) (Ku _) (Ky _) (λq=>by simp at q) (λi row q=>by simp at q) (λi row j x q=>by simp at q) λi row j x q=>by simp at q
    | succ j=>simp at hj
def qjY{M:Mem}{v:Value}{a b c:Int}{Z1 Z2:List Unit}(h:VRel M (.agg [sci .i64 a,sci .i64 b,sci .i64 c, .p (.imm 1 (pr eZ Z1)), .p (.imm 1 (pr eZ Z2))]) v):
  VRel M (lHs ⟨a,b,c,Ka Z1.length [],Ka Z2.length []⟩) v:=by
 have e1:pr eMs (Ka Z1.length [])=Ka Z1.length [.imm 2 []]:=by simp[pr,eMs]
 have e2:pr eLs (Ka Z2.length [])=Ka Z2.length [.imm 1 []]:=by simp[pr,eLs]
 cases h with
 | agg cs vs hl h1 r=>
   show VRel M (.agg [sci .i64 a,sci .i64 b,sci .i64 c, .p (.imm 1 (pr eMs (Ka Z1.length []))), .p (.imm 1 (pr eLs (Ka Z2.length [])))]) _;rw[e1,e2];refine .agg _ vs (by simpa using hl) h1 λi x w hx hw=>?_
   match i,hx with
   | 0,hx=>exact r 0 x w hx hw
   | 1,hx=>exact r 1 x w hx hw
   | 2,hx=>exact r 2 x w hx hw
   | 3,hx=>
     simp at hx;subst hx;have:=r 3 _ w rfl hw;cases this with
     | p _ _ h=>exact .p _ _ (qgC h)
   | 4,hx=>
     simp at hx;subst hx;have:=r 4 _ w rfl hw;cases this with
     | p _ _ h=>exact .p _ _ (qgC h)
   | i+5,hx=>simp at hx
def qhF(n:Int): ∀(ls:List (Int × Int)) (i:Nat),(ins n i ls).length<=ls.length
 | [],i=>by simp[ins]
 | x::r,i=>by
   have:=qhF n r (i+1);unfold ins;split<;>simp<;>omega
def qgx(n:Int): ∀(ls:List (Int × Int)) (i:Nat),(outs n i ls).length<=ls.length
 | [],i=>by simp[outs]
 | x::r,i=>by
   have:=qgx n r (i+1);unfold outs;split<;>simp<;>omega
def qlV(n:Nat):pr eZ (Ka n ())=Ka n [.sc (.slice U 0 0)]:=by simp[pr,eZ]
def qpy(N:Int)(ls:List (Int × Int))(T:List Nd)(ff:Bool)(room:Nat)(acts:List (Int × Int × Int))(n:Int)(m:Nat)(x:Nd)(hl:ls.length<=1000000)(hm:(m:Int)=if n < 0\/N<=n then 0 else n)(hx:T[m]? =V x):
  Pure prog 20 [lApp ⟨N,ls,T,ff,room,acts⟩,sci .i64 n] (lHs ⟨m,x.start,0,Ka (ins m 0 ls).length [],Ka (outs m 0 ls).length []⟩):=by
 obtain⟨ln,ex⟩:=List.getElem?_eq_some_iff.1 hx;obtain⟨st,ss⟩:=x;have hz:Pure prog 20 [lApp ⟨N,ls,T,ff,room,acts⟩,sci .i64 n] (.agg [sci .i64 m,sci .i64 st,sci .i64 0, .p (.imm 1 (pr eZ (Ka (ins m 0 ls).length ()))), .p (.imm 1 (pr eZ (Ka (outs m 0 ls).length ())))]):=by
  rw[qlV,qlV];have hi1:=qhF m ls 0;have ho1:=qgx m ls 0;refine zAa func20 λhs=>?_;by_cases c1:n < 0
  .rw[if_pos (.inl c1)] at hm;obtain rfl:m=0:=wa
   rw[Ks] at hi1 ho1;refine zS c1 ?_;(refine zM [1,2,4,45] ?_;refine zI [U,U,U,U,U,U,U,U,U,U,V [0,1,2,3,4,5,6,13,14,15],U,V [0,1,2,3,4,5,6,13,14,15,16,17,18],U,U,U,V [0,1,2,3,4,5,6,11,12],U,V [0,1,2,3,4,5,6,11,12],U,V []] ?_);(try simp(maxSteps:=2000000) (disch:=omega) only[go_sem,simprocAttr,zD,zE,ex,eNd]);(refine zF ?_;refine qaa (qdl N 0 ls hl) zB ?_);refine zS @Ks ?_;(refine zF ?_;refine qaa (qcU N 0 ls hl) zB ?_);exact zy @qfG
  .by_cases c2:N<=n
   .rw[if_pos (.inr c2)] at hm;obtain rfl:m=0:=wa
    rw[Ks] at hi1 ho1;refine zS (zQ c1 c2) ?_;(refine zM [1,2,4,45] ?_;refine zI [U,U,U,U,U,U,U,U,U,U,V [0,1,2,3,4,5,6,13,14,15],U,V [0,1,2,3,4,5,6,13,14,15,16,17,18],U,U,U,V [0,1,2,3,4,5,6,11,12],U,V [0,1,2,3,4,5,6,11,12],U,V []] ?_);(try simp(maxSteps:=2000000) (disch:=omega) only[go_sem,simprocAttr,zD,zE,ex,eNd]);(refine zF ?_;refine qaa (qdl N 0 ls hl) zB ?_);refine zS @Ks ?_;(refine zF ?_;refine qaa (qcU N 0 ls hl) zB ?_);exact zy @qfG
   .rw[if_neg wa] at hm;subst hm;refine zS (zQ c1 c2) ?_;(refine zM [1,2,4,45] ?_;refine zI [U,U,U,U,U,U,U,U,U,U,V [0,1,2,3,4,5,6,13,14,15],U,V [0,1,2,3,4,5,6,13,14,15,16,17,18],U,U,U,V [0,1,2,3,4,5,6,11,12],U,V [0,1,2,3,4,5,6,11,12],U,V []] ?_);(try simp(maxSteps:=2000000) (disch:=omega) only[go_sem,simprocAttr,zD,zE,ex,eNd]);refine zX (qdl N m ls hl) ?_;(refine zF ?_;refine qaa (qcU N m ls hl) zB ?_);exact zy @qfG
 have:=qfE (λM v=>qjY) hz;simpa using this
abbrev lAp(N:Int)(ls:List (Int × Int))(T:List Nd)(ff:Bool):IV:= .agg [sci .i64 N,lII ls, .p (.imm 2 (pr eNd T)),scb ff]
end Go.Proofs.NO
namespace Go.Proofs.NO
open Go Go.Idl Go.Proofs Go.GP Go.Proofs.Tryz
structure Lnk(e:Int)(l:List (Int × Int))(out:List Int)(inn:List (Int × Int)):Prop where
 he:e=out.length
 hl:l=restL out inn
 hr:RisP 0 inn
 hi: ∀m∈inn,m∈allM 0 out
 ho: ∀x∈out,0<=x/\x<=3
 h5:out.length<=500
def sIns(l:List (Int × Int))(m:Int × Int):List (Int × Int):=
 match l with
 | []=> [m]
 | x::r=>if x.1 < m.1 then x::sIns r m else m::x::r
def qnB(m): ∀l:List (Int × Int),l.take (posL m.1 l)++m::l.drop (posL m.1 l)=sIns l m
 | []=>rfl
 | x::r=>by
   unfold posL sIns;split
   .rw[<-qnB m r];rfl
   .rfl
def qfK{m x}: ∀ {l},x∈sIns l m↔x=m\/x∈l
 | []=>by simp[sIns]
 | y::r=>by
   unfold sIns;split
   .rw[List.mem_cons,qfK];grind
   simp
def up_pw{l}:UpH l↔l.Pairwise (λa b=>a.1 < b.1):=by
 rw[Kq];exact⟨λh i j g e c=>h i j e c,λh a b f d=>h a b wa f d⟩
def qnC{m}: ∀ {l},l.Pairwise (λa b:Int × Int=>a.1 < b.1)->(∀x∈l,x.1≠m.1)->(sIns l m).Pairwise (λa b=>a.1 < b.1)
 | [],_,_=>by simp[sIns]
 | y::r,h,e=>by
   rw[Kd] at h;unfold sIns;split
   .rw[Kd];refine⟨λx d=>?_,qnC h.2 λx d=>e x wg⟩;rcases qfK.1 d with rfl | d<;>grind
   grind[Kd]
def posL_has{q}: ∀ {l},l.Pairwise (λa b:Int × Int=>a.1 < b.1)->((∃y,l[posL q l]? =V y/\y.1=q)↔ ∃x∈l,x.1=q)
 | [],_=>by simp
 | x::r,h=>by
   rw[Kd] at h;unfold posL;split
   .rw[List.getElem?_cons_succ,posL_has h.2]
    grind
   grind
def qix: ∀ {last l},RisP last l->l.Pairwise (λa b=>a.1 < b.1)/\ ∀x∈l,last < x.1
 | _, [],_=>by simp
 | last,x::r,h=>by
   obtain⟨e,d⟩:=qix h.2;have f:=h.1.1;exact⟨List.pairwise_cons.2 ⟨d,e⟩,λy c=>by
    grind⟩
def qjW{f a d m}: ∀ {l},(∀t∈l,StaP m t.2.2)->StaP m d->StaP m (qbu f a d l)
 | [],_,h=>h
 | t::r,h,b=>by
   unfold qbu;split
   .grind
   .exact qjW (λx c=>h x wg) b
def qg8: ∀ {last l},RisP last l->last<=500->(l.length)<=500 - last
 | _, [],_,h=>by grind
 | last,x::r,h,a=>by
   have b:=qg8 h.2 h.1.2.1;have:=h.1.1
   grind
def ris_all: ∀ {last l},RisP last l-> ∀x∈l,x.1<=500/\0<=x.2/\x.2<=3
 | _, [],_,x,a=>by grind
 | last,y::r,h,x,a=>by
   rcases List.mem_cons.1 a with rfl | a
   .exact h.1.2
   .exact ris_all h.2 x a
def ris_of{last}: ∀ {l},l.Pairwise (λa b:Int × Int=>a.1 < b.1)->(∀x∈l,last < x.1)->(∀x∈l,x.1<=500/\0<=x.2/\x.2<=3)->RisP last l
 | [],_,_,_=>trivial
 | x::r,h,d,c=>by
   rw[Kd] at h;exact⟨⟨d x wb,c x wb⟩,ris_of h.2 h.1 λy e=>c y wg⟩
def ris_ins{l m}(h:RisP 0 l)(b: ∀y∈l,y.1≠m.1)(e:1<=m.1/\m.1<=500)(f:0<=m.2/\m.2 < 4):RisP 0 (sIns l m):=by
 obtain⟨c,d⟩:=qix h;refine ris_of (qnC c b) (λx a=>?_) λx a=>?_
 .rcases qfK.1 a with rfl | a<;>grind
 .rcases qfK.1 a with rfl | a
  .omega
  .exact ris_all h x a
structure Hst(ls:List (Int × Int))(T:List Nd)(t:Int)(S:List Int)(n:Nat)(h:Hs):Prop where
 hn:h.node=n
 hS:S[n]? =V h.state
 h0:0<=h.state
 hs: ∀x,T[n]? =V x->h.state < x.states.length
 hi:h.inn.length=(ins n 0 ls).length
 ho:h.out.length=(outs n 0 ls).length
 t0:0<=h.steps
 t1:h.steps<=t
structure Sys(N:Int)(ls:List (Int × Int))(T:List Nd)(t:Int)(c:Cf)(hs:List Hs):Prop where
 tab:TabP N ls T
 len:(hs.length:Int)=N
 sl:(c.S.length:Int)=N
 ll:c.L.length=ls.length
 el:c.E.length=ls.length
 hst: ∀(n:Nat) (h:Hs),hs[n]? =V h->Hst ls T t c.S n h
 lnk: ∀(k a b o j:Nat) (ha hb:Hs),ls[k]? =V ((a:Int),(b:Int))->hs[a]? =V ha->hs[b]? =V hb->(outs a 0 ls)[o]? =V (k:Int)->(ins b 0 ls)[j]? =V (k:Int)->
  ∃e l ov iv,c.E[k]? =V e/\c.L[k]? =V l/\ha.out[o]? =V ov/\hb.inn[j]? =V iv/\Lnk e l ov iv
def qlS: ∀(N) (l:List Nat),l.Nodup->(∀n∈l,n < N)->l.length<=N
 | 0,l,_,h=>by
   cases l with
   | nil=>simp
   | cons a l=>exact absurd (h a wb) wa
 | N+1,l,d,h=>by
   have b:=qlS N (l.filter (· != N)) (d.filter _) λn f=>by
    grind
   have g:l.length<=(l.filter (· != N)).length+1:=by
    induction l with
    | nil=>simp
    | cons a l i=>
      by_cases e:a=N
      .have j:l.filter (· != a)=l:=List.filter_eq_self.2 λx k=>by
        grind
       grind
      grind
   omega
def qho{N ls}(h: ∀(i x),ls[i]? =V x->qeK N ls i x):ls.Nodup:=by
 rw[Kr,Kq];intro i j a b c e;have d:=(h i _ (Ke a)).2.2.2.1;have f:=(h j _ (Ke b)).2.2.2.1
 grind
def qjr(n): ∀(ls i),(ins n i ls).length=(ls.filter (λx=>x.2==n)).length
 | [],i=>by rfl
 | x::r,i=>by
   have:=qjr n r (i+1)
   grind[ins]
def qip(n): ∀(ls i),(outs n i ls).length=(ls.filter (λx=>x.1==n)).length
 | [],i=>by rfl
 | x::r,i=>by
   have:=qip n r (i+1)
   grind[outs]
def few{N n}{l:List Int}(j:0<=n/\n < N)(r:N<=6)(k:l.Nodup)(h: ∀x∈l,0<=x/\x < N/\x≠n):l.length<=5:=by
 have m:((n::l).map Int.toNat).Nodup:=by
  rw[Kr,List.pairwise_map];have d:=List.nodup_cons.2 ⟨λq=>(h n q).2.2 rfl,k⟩;refine List.Pairwise.imp_of_mem (λ{a b} o p f e=>f ?_) d
  grind
 have d:=qlS N.toNat _ m λx c=>by
  grind
 grind
def qqR{N ls}(h:qd8 N ls){n}(m:0<=n/\n < N):(ins n 0 ls).length<=5:=by
 obtain⟨_,o,_,l,_⟩:=h;have p:=qho l;rw[qjr,<-Kc (f:=Prod.fst)];have d: ∀x∈ls.filter (λx=>x.2==n),x.2=n/\x∈ls:=λx g=>by
  grind
 refine few m o ?_ λx g=>?_
 .have i:=p.filter (λx=>x.2==n)
  grind
 .obtain⟨y,u,rfl⟩:=List.mem_map.1 g;obtain⟨e,k⟩:=d y u;obtain⟨q,v⟩:=List.mem_iff_getElem?.1 k;have:=l q y v;exact⟨this.1.1,this.1.2,λc=>this.2.2.1 wa⟩
def qp0{N ls}(h:qd8 N ls){n}(m:0<=n/\n < N):(outs n 0 ls).length<=5:=by
 obtain⟨_,o,_,l,_⟩:=h;have p:=qho l;rw[qip,<-Kc (f:=Prod.snd)];have d: ∀x∈ls.filter (λx=>x.1==n),x.1=n/\x∈ls:=λx g=>by
  grind
 refine few m o ?_ λx g=>?_
 .have i:=p.filter (λx=>x.1==n)
  grind
 .obtain⟨y,u,rfl⟩:=List.mem_map.1 g;obtain⟨e,k⟩:=d y u;obtain⟨q,v⟩:=List.mem_iff_getElem?.1 k;have:=l q y v;exact⟨this.2.1.1,this.2.1.2,λc=>this.2.2.1 wa⟩
def pcL(h:Hs):Pc:=⟨h.node,h.state,h.steps,h.out.map λl=>(l.length:Int),h.inn,h.out⟩
def pcF(h:Hs):Pc:=⟨h.node,h.state,h.steps,h.out.map λl=>(l.length:Int),Ka h.inn.length [], []⟩
section
variable{N:Int}{ls:List (Int × Int)}{T:List Nd}{t:Int}{c:Cf}{hs:List Hs}(s:Sys N ls T t c hs)
include s
end
end Go.Proofs.NO
namespace Go.Proofs.NO
open Go Go.Idl Go.Proofs Go.GP Go.Proofs.Tryz
section
variable{N:Int}{ls:List (Int × Int)}{T:List Nd}{t:Int}{c:Cf}{hs:List Hs}(s:Sys N ls T t c hs)
include s
end
end Go.Proofs.NO
/- A step of the plain system, and what a host does of it. -/
namespace Go.Proofs.NO
open Go Go.Idl Go.Proofs Go.GP Go.Proofs.Tryz
section
variable{N:Int}{ls:List (Int × Int)}{T:List Nd}{t:Int}{c:Cf}{hs:List Hs}(s:Sys N ls T t c hs)
include s
end
end Go.Proofs.NO
/- What a host tells. -/
namespace Go.Proofs.NO
open Go Go.Idl Go.Proofs Go.Proofs.Tryz
set_option maxHeartbeats 0
set_option maxRecDepth 100000
def qmD(h:Hs)(hg:gHs h):Pure prog 84 [lHs h,scb true] (lPc ⟨h.node,h.state,h.steps,h.out.map λl=>(l.length:Int),h.inn,h.out⟩):=by
 have hg2:=hg;obtain⟨node,state,steps,inn,out⟩:=h;obtain⟨h2,h3,h4,h5⟩:=hg;simp only at h2 h3 h4 h5;refine zAb func84 λhs=>?_;(refine zG ?_;refine qaa (qd2 ⟨node,state,steps,inn,out⟩) zB ?_);refine zV ?_;(refine qk7 200 ?_;refine zW ?_;refine qaa (qja ⟨node,state,steps,inn,out⟩ hg2) zB ?_);refine zP ?_;refine walk_ownB 2 0 3 1 trivial rfl rfl rfl (.inr rfl) ?_;simp only[Kg,Kj,Kw];obtain⟨X,hX⟩: ∃X:List Int,X=out.map λl=>(l.length:Int):=⟨_,rfl⟩;have hXl:X.length=out.length:=by rw[hX,Kc]
 have hXs: ∀(i:Nat) (li:i < out.length),X.take (i+1)=X.take i++ [(out[i].length:Int)]:=λi li=>by
  rw[hX,Kk (by rw[Kc];exact li),Kl]
 rw[<-hX];clear hX;refine zM [4,5,20,21,22,75] ?_;refine qac 200 200 (λi:Nat × Nat=>i.1<=out.length)
  (λi=>⟨35, [(4, .ptr 1 0 0 0),(5, .ptr 2 0 0 0),(20,lLs out),(21,sci .i64 out.length),(22,sci .i64 i.1)], [],4, [(3, .arr 1 i.2 (ir eI (X.take i.1))),(2, .arr 6 0 [[sci .i64 node,sci .i64 state,sci .i64 steps, .ref 3 i.2 0 i.1,lMs inn,lLs out]]),(1, .arr 6 0 [[sci .i64 0,sci .i64 0,sci .i64 0,nil0,nil0,nil0]]),(0, .arr 5 0 [[sci .i64 node,sci .i64 state,sci .i64 steps,lMs inn,lLs out]])]⟩) (λi=>out.length - i.1) (0,0) [] ?_ ?_ ?_
 .simp
 .exact zc (zQ @Ks (zQ @Kb.{0} (zQ @Kf.{0} @Ki.{0})))
 .rintro⟨i,g⟩ hi;simp only at hi;refine zV ?_;by_cases li:i < out.length
  .have hl5:=h5 out[i] (Kh li);have hpt:X.take (i+1)=X.take i++ [(out[i].length:Int)]:=hXs i li;have htt:(X.take i).length=i:=by rw[Km];omega
   have hti:(X.take i).take i=X.take i:=by rw[Kn,Kx]
   (try simp(maxSteps:=2000000) (disch:=omega) only[go_sem,simprocAttr,zD,zE,eLs,htt]);refine⟨(i+1,g+1), [],wd,?_,?_⟩
   ·(try simp only[]);omega
   .exact zc (zQ hpt (zQ hti (zQ @ir_snoc (zQ @Ko.{0,0} (zQ @Kp.{0,0} @Kf.{0})))))
  .obtain rfl:i=out.length:=wa
   have e:X.take out.length=X:=Kb wa;exact zy e
end Go.Proofs.NO
/- A piece without logs; where a step is done. -/
namespace Go.Proofs.NO
open Go Go.Idl Go.Proofs Go.GP Go.Proofs.Tryz
set_option maxHeartbeats 0
set_option maxRecDepth 100000
def qru{M:Mem}{v:Value}{a b c:Int}{S:List Int}{Z:List Unit}(h:VRel M (.agg [sci .i64 a,sci .i64 b,sci .i64 c,lI S, .p (.imm 1 (pr eZ Z)),nil0]) v):
  VRel M (lPc ⟨a,b,c,S,Ka Z.length [], []⟩) v:=by
 have e1:pr eMs (Ka Z.length [])=Ka Z.length [.imm 2 []]:=by simp[pr,eMs]
 cases h with
 | agg cs vs hl h1 r=>
   show VRel M (.agg [sci .i64 a,sci .i64 b,sci .i64 c,lI S, .p (.imm 1 (pr eMs (Ka Z.length []))), .p (.imm 1 (pr eLs []))]) _;rw[e1];refine .agg _ vs (by simpa using hl) h1 λi x w hx hw=>?_
   match i,hx with
   | 0,hx=>exact r 0 x w hx hw
   | 1,hx=>exact r 1 x w hx hw
   | 2,hx=>exact r 2 x w hx hw
   | 3,hx=>exact r 3 x w hx hw
   | 4,hx=>
     simp at hx;subst hx;have:=r 4 _ w rfl hw;cases this with
     | p _ _ h=>exact .p _ _ (qgC h)
   | 5,hx=>
     simp at hx;subst hx;have:=r 5 _ w rfl hw;cases this with
     | p _ _ h=>
       cases h;exact .p _ _ (.imm _ [] U 0 0 0 (λ_ _=> .slice U 0 0) (Ku _) (Ky _) (λq=>by simp at q) (λi row q=>by simp at q) (λi row j x q=>by simp at q) λi row j x q=>by simp at q)
   | i+6,hx=>simp at hx
def qmC(h:Hs)(hg:gHs h):Pure prog 84 [lHs h,scb false] (lPc (pcF h)):=by
 have hz:=qmB h hg;rw[<-qlV] at hz;have:=qfE (λM v=>qru) hz;rw[List.length_replicate] at this;exact this
end Go.Proofs.NO
/- How the laws' arguments read. -/
namespace Go.Proofs.YtfhhdgkhajkapaaGreat
open Go Go.Idl Go.Proofs Go.Proofs.Tryz
open Go.ChangeShapes Go.WideShapes Go.ChangeAt Go.RowKit
set_option maxRecDepth 100000
def Tryz.own:ownKnob Tryz.prog.godebug=U:=we
def Tryz.laidOut:laidOutB prog=true:=we
def one{t:TypeId}{x:PV}(h:tag prog t=V false):ArgIs prog t [x] (.p x):=qrK h
def agg{t:TypeId}{xs:List PV}(h:tag prog t=V true):ArgIs prog t xs (.agg (xs.map .p)):=qrJ h
def qaX:qar prog 3 (λn:Int=> [.sc (.int .i64 n)]) λ_=>True:=qar.map (qpX Tryz.underlying3) id (λ_=>rfl) λ_ _=>trivial
def qsi:qar prog 4 (λb:Bool=> [.sc (.bool b)]) λ_=>True:=qoJ Tryz.underlying4
def qg5:qar prog 37 (λl:List Int=> [.imm 1 (pr eI l)]) λ_=>True:=
 qar.map (qba (by_:=8) Tryz.underlying37 we wh we qaX) id (λ_=>rfl) λ_ _=>trivial
def qsj:qar prog 68 eII λ_=>True:=qar.map (qpY (sz:=1) Tryz.underlying68 we we qaX) id (λ_=>rfl) λ_ _=>trivial
def qq7:qar prog 22 (λl:List (Int × Int)=> [.imm 2 (pr eII l)]) λ_=>True:=
 qar.map (qba (by_:=16) Tryz.underlying22 we wh we qsj) id (λ_=>rfl) λ_ _=>trivial
def qq6:qar prog 24 (λa:Int × List (Int × Int)=> [.sc (.int .i64 a.1)]++ [.imm 2 (pr eII a.2)]) λ_=>True:=
 qar.map (qa9 (fs:= [_,_]) Tryz.underlying24 we (qat rfl rfl qaX (qbr rfl rfl qq7))) id (λ_=>rfl) λ_ _=>trivial
def qso:qar prog 213 eII λ_=>True:=
 qar.map (qa9 (fs:= [_,_]) Tryz.underlying213 we (qat rfl rfl qaX (qbr rfl rfl qaX))) id (λ_=>rfl) λ_ _=>trivial
def qrb:qar prog 206 (λl:List (Int × Int)=> [.imm 2 (pr eII l)]) λ_=>True:=
 qar.map (qba (by_:=16) Tryz.underlying206 we wh we qso) id (λ_=>rfl) λ_ _=>trivial
def qsn:qar prog 208 NO.ePk λ_=>True:=
 qar.map (qa9 (fs:= [_,_]) Tryz.underlying208 we (qat rfl rfl qaX (qbr rfl rfl qrb))) id (λ_=>rfl) λ_ _=>trivial
def qq9:qar prog 297 (λl:List (Int × List (Int × Int))=> [.imm 2 (pr NO.ePk l)]) λ_=>True:=
 qar.map (qba (by_:=32) Tryz.underlying297 we wh we qsn) id (λ_=>rfl) λ_ _=>trivial
def qsp:qar prog 306 NO.eIII λ_=>True:=
 qar.map (qa9 (fs:= [_,_,_]) Tryz.underlying306 we (qat rfl rfl qaX (qat rfl rfl qaX (qbr rfl rfl qaX)))) id (λ_=>rfl) λ_ _=>trivial
def qrd:qar prog 298 (λl:List (Int × Int × Int)=> [.imm 3 (pr NO.eIII l)]) λ_=>True:=
 qar.map (qba (by_:=24) Tryz.underlying298 we wh we qsp) id (λ_=>rfl) λ_ _=>trivial
def qrc:qar prog 300 NO.eSt λ_=>True:=
 qar.map (qa9 (fs:= [_,_,_,_]) Tryz.underlying300 we (qat rfl rfl qaX (qat rfl rfl qg5 (qat rfl rfl qq9 (qbr rfl rfl qrd)))))
  (λa=>(⟨a.1,a.2.1,a.2.2.1,a.2.2.2⟩:NO.St)) (λ_=>rfl) λ_ _=>trivial
def qpW:qar prog 198 (λl:List NO.St=> [.imm 4 (pr NO.eSt l)]) λ_=>True:=
 qar.map (qba (by_:=80) Tryz.underlying198 we wh we qrc) id (λ_=>rfl) λ_ _=>trivial
def qsl:qar prog 200 NO.eNd λ_=>True:=
 qar.map (qa9 (fs:= [_,_]) Tryz.underlying200 we (qat rfl rfl qaX (qbr rfl rfl qpW))) (λa=>(⟨a.1,a.2⟩:NO.Nd)) (λ_=>rfl) λ_ _=>trivial
def qq8:qar prog 25 (λl:List NO.Nd=> [.imm 2 (pr NO.eNd l)]) λ_=>True:=
 qar.map (qba (by_:=32) Tryz.underlying25 we wh we qsl) id (λ_=>rfl) λ_ _=>trivial
def op_app:qar prog 27 (λa:NO.Sc=> [.sc (.int .i64 a.N), .imm 2 (pr eII a.ls), .imm 2 (pr NO.eNd a.T), .sc (.bool a.fifo)]) λ_=>True:=
 qar.map (qa9 (fs:= [_,_,_]) Tryz.underlying27 we (qat rfl rfl qq6 (qat rfl rfl qq8 (qbr rfl rfl qsi))))
  (λa=>(⟨a.1.1,a.1.2,a.2.1,a.2.2,0, []⟩:NO.Sc)) (λ_=>rfl) λ_ _=>trivial
end Go.Proofs.YtfhhdgkhajkapaaGreat
namespace Go.GN
section
variable{α:Type}
end
end Go.GN
