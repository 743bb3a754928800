/- The document's probes. -/
import Derived.Test.YtfhhdgkhajkapaaGreatNRb
import Derived.Test.YtfhhdgkhajkapaaGreatNNo
set_option linter.all false
open True renaming intro->Ka
open List renaming take_of_length_le->Kb,append_assoc->Kc,take_succ_eq_append_getElem->Kd,length_take->Ke,take_take->Kf,map_cons->Kg,map_nil->Kh,getElem_mem->Ki
open Int renaming natCast_zero->Kj
open Option renaming none->U,some->V
namespace Go.Proofs.NO
open Go Go.Idl Go.Proofs Go.GP Go.Proofs.Tryz
set_option maxHeartbeats 0
set_option maxRecDepth 100000
def qgv(N:Int)(ls:List (Int × Int))(T:List Nd)(ff:Bool)(h:Hs)(n j:Nat)(nd:Nd)(st:St)(hn:h.node=n)(hj:h.state=j)(hx:T[n]? =V nd)(hq:nd.states[j]? =V st)(hl:ls.length<=1000000)
  (hw:st.waits.length<=1000) (hil:h.inn.length=(ins h.node 0 ls).length) (init num:Int) (path:List Int) (hp:path.length<=100):
  Pure prog 134 [lAp N ls T ff,lHs h,sci .i64 init,sci .i64 num,lI path] (lOus (sendsP ls st h init num path)):=by
 obtain⟨S,hS⟩: ∃S,S=sendsP ls st h init num path:=⟨_,rfl⟩;have hSl:S.length=st.waits.length:=by rw[hS];simp[sendsP]
 have hSs: ∀(i:Nat) (li:i < st.waits.length),S.take (i+1)=S.take i++ [⟨qaz h.node st.waits[i] 0 ls,⟨6,0,(0,0), [],init,num,lenAt h.inn (indexL (qaz st.waits[i] h.node 0 ls) 0 (ins h.node 0 ls)),path++ [h.node]⟩⟩]:=λi li=>by
  rw[hS,sendsP,Kd (by rw[List.length_map];exact li),List.getElem_map]
 rw[<-hS];clear hS;have hG:=λy=>qqj ⟨N,ls,T,ff,0, []⟩ h y hl hil
 have hA:=qcd T n j nd st hx hq;obtain⟨node,state,steps,inn,out⟩:=h;obtain⟨mode,Wl,pk,tk⟩:=st;simp only at hn hj hG hSs hil hSl hw;subst hn hj;refine pcall0 200 (fn:=f134) func134 rfl (by simp[ntmps134]) zB zB λhs=>?_;refine zV ?_;refine zY hA ?_;refine walk_own 11 10 trivial rfl (.inl rfl) ?_;(refine walk_trim [2,3,4,5,6,11,12,13] trivial zL ?_;((try refine zW ?_);(try with_reducible exact Ka)));refine qac 200 200 (λi:Nat × Nat=>i.1<=Wl.length)
  (λi=>⟨70, [(2,sci .i64 init),(3,sci .i64 num),(4,lI path),(5, .ptr 0 0 0 0),(6, .ptr 1 0 0 0),(11, .ref 2 i.2 0 i.1),(12,lI Wl),(13,sci .i64 i.1)], [],3, [(2, .arr 10 i.2 (ir eOu (S.take i.1))),(1, .arr 5 0 [[sci .i64 n,sci .i64 j,sci .i64 steps,lMs inn,lLs out]]),(0, .arr 4 0 [[sci .i64 N, .p (.imm 2 (pr eII ls)), .p (.imm 2 (pr eNd T)),scb ff]])]⟩) (λi=>Wl.length - i.1) (0,0) [] ?_ ?_ ?_
 .simp
 .constructor<;>(try simp(maxSteps:=2000000) (disch:=omega) only[go_sem,simprocAttr,zD,zE,Kj,Kb,Kc,List.take_zero])
 .rintro⟨i,g⟩ hi;simp only at hi;refine zV ?_;by_cases li:i < Wl.length
  .have hsn:=hSs i li;have htt:(S.take i).length=i:=by rw[Ke];omega
   have hti:(S.take i).take i=S.take i:=by rw[Kf,Nat.min_self]
   have hpa:ir eI (path++ [(n:Int)])=ir eI path++ [[sci .i64 n]]:=by rw[ir_snoc];rfl
   have hpt:(ir eI (path++ [(n:Int)])).take (path.length+1)=ir eI (path++ [(n:Int)]):=Kb wu;have hmn:min i S.length=i:=wa
   have hmm:min i (min i S.length)=i:=wa
   have hpq:pvs2 (List.take (path.length+1) (ir eI path++ [List.map IV.p (eI (n:Int))]))=V (pr eI (path++ [(n:Int)])):=by
    rw[<-ir_snoc,hpt];exact Go.Idl.pvs2_ir
   have hGw:=hG (qaz Wl[i] n 0 ls);(try simp(maxSteps:=2000000) (disch:=omega) only[go_sem,simprocAttr,zD,zE,eI]);generalize hw:Wl[i]=w at *;(try simp(maxSteps:=2000000) (disch:=omega) only[go_sem,simprocAttr,zD,zE,maxLen]);(refine zM [2,3,4,5,6,11,12,13,14] ?_;refine zI [U,U,U,U,U,U,U,U,U,U,V [0,1],V [],U] ?_);(try simp(maxSteps:=2000000) (disch:=omega) only[go_sem,simprocAttr,zD,zE,eI,hw]);refine zX (qbz N w n ls hl) ?_;refine zX hGw ?_;generalize lenAt inn (indexL (qaz w n 0 ls) 0 (ins n 0 ls))=got at *;(refine zM [2,3,4,5,6,11,12,13,14,15] ?_;refine zI [U,U,U,U,U,U,U,U,U,V [0,10,11,12,13,14],U,U,U,U,U,U,V [0],V [],U] ?_);(try simp(maxSteps:=2000000) (disch:=omega) only[go_sem,simprocAttr,zD,zE,eI,hw]);refine zX (qbz N n w ls hl) ?_;refine⟨(i+1,g+1), [3],wd,?_,?_⟩
   ·(try simp only[]);omega
   .constructor<;>(try simp(maxSteps:=2000000) (disch:=omega) only[go_sem,simprocAttr,zD,zE,htt,hti,hmn,hmm,hsn,ir_snoc,hpq,eOu,Kg,Kh,Kc])
  .obtain rfl:i=Wl.length:=wa
   rw[Kb (Nat.le_of_eq hSl)];(try simp(maxSteps:=2000000) (disch:=omega) only[go_sem,simprocAttr,zD,zE,Kb (Nat.le_of_eq hSl)])
def qkY(N:Int)(ls:List (Int × Int))(T:List Nd)(ff:Bool)(h:Hs)(n j:Nat)(nd:Nd)(st:St)(hn:h.node=n)(hj:h.state=j)(hx:T[n]? =V nd)(hq:nd.states[j]? =V st)(hl:ls.length<=1000000)
  (hw:st.waits.length<=1000) (hil:h.inn.length=(ins h.node 0 ls).length) (num:Int):
  Pure prog 54 [lAp N ls T ff,lHs h,sci .i64 num] (.tup [lOus (startP ls ff st h num).1,sci .i64 (startP ls ff st h num).2]):=by
 have hS:=qgv N ls T ff h n j nd st hn hj hx hq hl hw hil h.node num [] wc;have hA:=qcd T n j nd st hx hq;unfold startP;generalize sendsP ls st h h.node num []=S at *;obtain⟨node,state,steps,inn,out⟩:=h;simp only at hn hj;subst hn hj;cases ff
 .refine pcall0 200 (fn:=f54) func54 rfl jb zB zB λhs=>?_;((try refine zW ?_);(try with_reducible exact Ka))
 simp only[Bool.true_eq_false,if_false];by_cases c2:num < 1
 .rw[if_pos (.inl c2)];refine pcall0 200 (fn:=f54) func54 rfl jb zB zB λhs=>?_;((try refine zO ?_);(try with_reducible exact Ka))
 by_cases c3:200 < num
 .rw[if_pos (.inr c3)];refine pcall0 200 (fn:=f54) func54 rfl jb zB zB λhs=>?_;((try refine zO ?_);(try with_reducible exact Ka))
 rw[if_neg (λq=>q.elim c2 c3)];refine pcall0 200 (fn:=f54) func54 rfl jb zB zB λhs=>?_;refine zP ?_;(refine zG ?_;refine qaa (hA) zB ?_;refine zV ?_);by_cases c4:st.mode=2
 .rw[if_neg (λq=>q c4)];refine zS c4 ?_;(refine zG ?_;refine qaa (hS) zB ?_);((try refine zO ?_);(try with_reducible exact Ka))
 .rw[if_pos c4];(try simp(maxSteps:=2000000) (disch:=omega) only[go_sem,simprocAttr,zD,zE,c4])
def qmi(N:Int)(ls:List (Int × Int))(T:List Nd)(ff:Bool)(h:Hs)(n j:Nat)(nd:Nd)(st:St)(hn:h.node=n)(hj:h.state=j)(hx:T[n]? =V nd)(hq:nd.states[j]? =V st)(hl:ls.length<=1000000)
  (hw:st.waits.length<=1000) (hil:h.inn.length=(ins h.node 0 ls).length) (hol:h.out.length=(outs h.node 0 ls).length) (seen:List Int) (hse:seen.length<=100) (link:Int) (f:Fm) (hi0:0<=f.init/\f.init<=5) (hp:f.path.length<=100):
  Pure prog 205 [lAp N ls T ff,lHs h,lI seen,sci .i64 link,lFm f] (.tup [lI (hearP ls st h seen link f).1,lOus (hearP ls st h seen link f).2.1,lI (hearP ls st h seen link f).2.2]):=by
 have hS:=qgv N ls T ff h n j nd st hn hj hx hq hl hw hil f.init f.num f.path hp;have hA:=qcd T n j nd st hx hq;have hI:=qbu N h.node ls hl;have hP:=qbB (ins h.node 0 ls) link;have hBk:=qcn N ls link hl;have hG:=qoM ⟨N,ls,T,ff,0, []⟩ h (backL ls link) hl hol;obtain⟨i,ei⟩:=Int.eq_ofNat_of_zero_le hi0.1;obtain⟨f1,f2,⟨f3,f4⟩,f5,f6,f7,f8,f9⟩:=f;simp only at ei hi0 hp hS;subst ei;have hpm:link∈ins h.node 0 ls↔0<=indexL link 0 (ins h.node 0 ls):=qcO.symm;obtain⟨r,hr⟩: ∃r,hearP ls st h seen link ⟨f1,f2,(f3,f4),f5,i,f7,f8,f9⟩=r:=⟨_,rfl⟩;rw[hr];unfold hearP at hr;simp only[Int.toNat_natCast] at hr;generalize sendsP ls st h (i:Int) f7 f9=S at *;obtain⟨node,state,steps,inn,out⟩:=h;simp only at hn hj hI hP hG hpm hr;subst hn hj;obtain⟨A,hAk⟩: ∃A:Nat->List Int,∀k,A k=seen++List.replicate k 0:=⟨_,λ_=>rfl⟩;have aS: ∀k,A (k+1)=A k++ [0]:=λk=>by rw[hAk,hAk,List.replicate_succ',Kc]
 have aL: ∀k,(A k).length=seen.length+k:=λk=>by rw[hAk,List.length_append,List.length_replicate]
 have aT: ∀k,(A k).take (seen.length+k)=A k:=λk=>Kb (by rw[aL];exact Nat.le_refl _)
 have a0:A 0=seen:=by rw[hAk,List.replicate_zero,List.append_nil]
 have hget: ∀(q:i < (A (i+1 - seen.length)).length),(A (i+1 - seen.length))[i]=(seen[i]?).getD 0:=λq=>by
  simp only[hAk];rw[List.getElem_append];split
  .rename_i w;rw[List.getElem?_eq_getElem w,Option.getD_some]
  .rename_i w;rw[List.getElem_replicate,List.getElem?_eq_none wa,Option.getD_none]
 rw[<-hAk] at hr;clear hAk;generalize indexL link 0 (ins (n:Int) 0 ls)=at_ at *;generalize lenAt out (indexL (backL ls link) 0 (outs (n:Int) 0 ls))=gv at *;refine pcall0 200 (fn:=f205) func205 rfl (by simp[ntmps205]) zB zB λhs=>?_;refine zV ?_;refine zN [2,3,5,6,9] [U,U,U,U,V [5],U,V [],U,U,U,U,U,U,U,U,V [],U,U,U,U,U,U,U,U,U,V [20,21,27,28],V [27,28],U,U,U,U] ?_;refine zX hI ?_;(refine zF ?_;refine qaa (hP) zB ?_;refine zV ?_);by_cases c1:at_ < 0
 .rw[if_pos (Or.inl λq=>absurd (hpm.1 q) wa)] at hr;subst hr;((try refine zO ?_);(try with_reducible exact Ka))
 have c1':link∈ins (n:Int) 0 ls:=hpm.2 wa;refine zP ?_;(refine zF ?_;refine qaa (hA) zB ?_;refine zV ?_);by_cases c2:st.mode=2
 rotate_left
 .rw[if_pos (Or.inr (Or.inl c2))] at hr;subst hr;(try simp(maxSteps:=2000000) (disch:=omega) only[go_sem,simprocAttr,zD,zE,c2])
 refine zS c2 ?_;refine zX hBk ?_;(refine zF ?_;refine qaa (hG) zB ?_;refine zV ?_);by_cases c3:gv=f8
 rotate_left
 .rw[if_pos (Or.inr (Or.inr c3))] at hr;subst hr;(try simp(maxSteps:=2000000) (disch:=omega) only[go_sem,simprocAttr,zD,zE,c3])
 rw[if_neg (by rintro(q | q | q);exact q c1';exact q c2;exact q c3)] at hr;refine zS c3 ?_;by_cases c4:(i:Int)=n
 .rw[if_pos c4] at hr;subst hr;refine zS c4 ?_;(refine zM [2,9] ?_;refine zI [U,U,U,U,U,U] ?_);((try refine zO ?_);(try with_reducible exact Ka))
 rw[if_neg c4] at hr;(try simp(maxSteps:=2000000) (disch:=omega) only[go_sem,simprocAttr,zD,zE,c4,maxLen]);(refine walk_trim [2,5,6,9,13] trivial zL ?_;((try refine zW ?_);(try with_reducible exact Ka)));refine qac 200 200 (λk:Nat × Nat=>k.1<=i+1 - seen.length)
  (λk=>⟨90, [(2,lI seen),(5, .ptr 0 0 0 0),(6, .ptr 1 0 0 0),(9, .ptr 2 0 0 0),(13, .ref 3 k.2 0 (seen.length+k.1))], [],4, [(3, .arr 1 k.2 (ir eI (A k.1))),(2, .arr 9 0 [[sci .i64 f1,sci .i64 f2,sci .i64 f3,sci .i64 f4,lPs f5,sci .i64 i,sci .i64 f7,sci .i64 f8,lI f9]]),(1, .arr 5 0 [[sci .i64 n,sci .i64 j,sci .i64 steps,lMs inn,lLs out]]),(0, .arr 4 0 [[sci .i64 N, .p (.imm 2 (pr eII ls)), .p (.imm 2 (pr eNd T)),scb ff]])]⟩) (λk=>i+1 - seen.length - k.1) (0,0) [] ?_ ?_ ?_
 .simp
 .constructor<;>(try simp(maxSteps:=2000000) (disch:=omega) only[go_sem,simprocAttr,zD,zE,Kj,Kb,Kc,a0,Nat.add_zero])
 .rintro⟨k,g⟩ hk;simp only at hk;refine zV ?_;by_cases lk:k < i+1 - seen.length
  .have sS:=aS k;have sL:=aL k;have sT:=aT k;refine zS sL ?_;refine⟨(k+1,g+1), [],wd,?_,?_⟩
   ·(try simp only[]);omega
   .constructor<;>(try simp(maxSteps:=2000000) (disch:=omega) only[go_sem,simprocAttr,zD,zE,sS,sL,sT,Nat.add_assoc,Kc])
  .obtain rfl:k=i+1 - seen.length:=wa
   have hlt:i < seen.length+(i+1 - seen.length):=wa
   have sL:=aL (i+1 - seen.length);have sT:=aT (i+1 - seen.length);have hlt2: ¬((seen.length+(i+1 - seen.length):Nat):Int)<=i:=wa
   generalize A (i+1 - seen.length)=A at *;generalize seen.length+(i+1 - seen.length)=m at *;have hAi:=hget wa;refine zP ?_;(refine zM [2,5,6,9,13] ?_;refine zI [U,U,U,U,U,U,U,U] ?_);(try simp(maxSteps:=2000000) (disch:=omega) only[go_sem,simprocAttr,zD,zE,eI,hAi]);by_cases c5:f7<=(seen[i]?).getD 0
   .rw[if_pos c5] at hr;subst hr;(try simp(maxSteps:=2000000) (disch:=omega) only[go_sem,simprocAttr,zD,zE,c5])
   rw[if_neg c5] at hr;subst hr;(try simp(maxSteps:=2000000) (disch:=omega) only[go_sem,simprocAttr,zD,zE,c5,eI]);refine zY hS ?_;rw[Kb vJ]
def qmr(f:Fm)(h1:f.ps.length<=1000000)(h2:f.path.length<=1000000):Pure prog 135 [lFm f,lFm f] (scb true):=by
 have hA:=qib f.ps f.ps;rw[qbg.2 rfl] at hA;obtain⟨f1,f2,⟨f3,f4⟩,f5,f6,f7,f8,f9⟩:=f;simp only at h2 hA;have cm:(f3==f3 && f4==f4)=true:=wc
 refine pcall0 200 (fn:=f135) func135 rfl (by simp[ntmps135]) zB zB λhs=>?_;refine zV ?_;(try simp(maxSteps:=2000000) (disch:=omega) only[go_sem,simprocAttr,zD,zE,cm,beq_self_eq_true]);(refine zG ?_;refine qaa (hA) zB ?_);(try simp(maxSteps:=2000000) (disch:=omega) only[go_sem,simprocAttr,zD,zE,cm,beq_self_eq_true]);(refine zG ?_;refine qaa (qcW f9 h2) zB ?_);((try refine zO ?_);(try with_reducible exact Ka))
def qgn(l:List Ou)(hl:l.length<=1000000)(hf: ∀o∈l,o.f.ps.length<=1000000/\o.f.path.length<=1000000):Pure prog 55 [lOus l,lOus l] (scb true):=by
 refine pcall0 200 (fn:=f55) func55 rfl (by simp[ntmps55]) zB zB λhs=>?_;refine zV ?_;refine zP ?_;refine qac 200 200 (λi:Nat=>i<=l.length)
  (λi=>⟨42, [(0,lOus l),(1,lOus l),(5,sci .i64 i)], [],0, []⟩) (λi=>l.length - i) (0) [] ?_ ?_ ?_
 .simp
 .constructor<;>(try simp(maxSteps:=2000000) (disch:=omega) only[go_sem,simprocAttr,zD,zE,Kj,Kb,Kc])
 .rintro i hi;refine zV ?_;by_cases li:i < l.length
  .have hi:=hf _ (Ki li);generalize hq:l[i]=o at *;obtain⟨lk,f1,f2,⟨f3,f4⟩,f5,f6,f7,f8,f9⟩:=o;simp only at hi;refine zP ?_;(refine zM [0,1,5] ?_;refine zI [U,U,U,U,U,U,U,U,U,U,U,U,U,U,U,U,U,U,U,U,U,U,V [],U,U] ?_);(try simp(maxSteps:=2000000) (disch:=omega) only[go_sem,simprocAttr,zD,zE,eOu,hq,beq_self_eq_true]);refine zX (qmr ⟨f1,f2,(f3,f4),f5,f6,f7,f8,f9⟩ hi.1 hi.2) ?_;refine⟨i+1, [],wd,?_,?_⟩
   ·(try simp only[]);omega
   .constructor<;>(try simp(maxSteps:=2000000) (disch:=omega) only[go_sem,simprocAttr,zD,zE,Kc])
  .obtain rfl:i=l.length:=wa
   ((try refine zO ?_);(try with_reducible exact Ka))
def qgr(l:List Ou)(hl:l.length<=1000000)(hf: ∀o∈l,o.f.ps.length<=1000):Pure prog 56 [lOus l] (lOus l):=by
 refine pcall0 200 (fn:=f56) func56 rfl (by simp[ntmps56]) zB zB λhs=>?_;refine zV ?_;refine walk_own 3 10 trivial rfl (.inl rfl) ?_;(refine walk_trim [0,3,4] trivial zL ?_;((try refine zW ?_);(try with_reducible exact Ka)));refine qac 200 200 (λi:Nat × Nat=>i.1<=l.length)
  (λi=>⟨28, [(0,lOus l),(3, .ref 0 i.2 0 i.1),(4,sci .i64 i.1)], [],1, [(0, .arr 10 i.2 (ir eOu (l.take i.1)))]⟩) (λi=>l.length - i.1) (0,0) [] ?_ ?_ ?_
 .simp
 .constructor<;>(try simp(maxSteps:=2000000) (disch:=omega) only[go_sem,simprocAttr,zD,zE,Kj,Kb,Kc])
 .rintro⟨i,g⟩ hi;simp only at hi;refine zV ?_;by_cases li:i < l.length
  .have hlt:(l.take i).length=i:=by rw[Ke];omega
   have hl2:(l.take i).take i=l.take i:=by rw[Kf,Nat.min_self]
   have hS:l.take (i+1)=l.take i++ [l[i]]:=Kd li;have hi:=hf _ (Ki li);have hmn:min i l.length=i:=wa
   have hmm:min i (min i l.length)=i:=wa
   generalize hq:l[i]=o at *;obtain⟨lk,f1,f2,⟨f3,f4⟩,f5,f6,f7,f8,f9⟩:=o;simp only at hi;refine zP ?_;(refine zM [0,3,4] ?_;refine zI [U,U,U,U,U,U,U,U,U,U,U,V [0,1,2,3,4,5],U,V [0],V [],U] ?_);(try simp(maxSteps:=2000000) (disch:=omega) only[go_sem,simprocAttr,zD,zE,eOu,hq,hlt,hl2]);(refine zF ?_;refine qaa (qbV ⟨f1,f2,(f3,f4),f5,f6,f7,f8,f9⟩ hi) zB ?_);(try simp(maxSteps:=2000000) (disch:=omega) only[go_sem,simprocAttr,zD,zE,eOu,hq,hlt,hl2]);refine⟨(i+1,g+1), [],wd,?_,?_⟩
   ·(try simp only[]);omega
   .constructor<;>(try simp(maxSteps:=2000000) (disch:=omega) only[go_sem,simprocAttr,zD,zE,ir_snoc,hS,hlt,hl2,hmn,hmm,eOu,Kg,Kh,Kc])
  .obtain rfl:i=l.length:=wa
   ((try refine zO ?_);(try with_reducible exact Ka))
end Go.Proofs.NO
